/-
  The reference's Put of package seal, walked.
-/
import Derived.Test.YtlohbkcedpkjaaaDoorAppB
import Derived.Test.YtlohbkcedpkjaaaDoorBase
import Derived.Test.YtlohbkcedpkjaaaDoorWSealGet
import Derived.Test.YtlohbkcedpkjaaaDoorWFrames
import Derived.Deep.RegionHeld3
import Derived.Outline
import Derived.OwnWalk
import Derived.Deep.Onto
namespace Go.Proofs.YtlohbkcedpkjaaaDoor
open Go.RowKit
open Byts Seal
set_option linter.unusedVariables false
section
variable {w : World} {ops : Array Oper} {o : Oper} {a : Act} {K : Act → World → Prop} {Q : Exit → Act → World → Prop} {E : Prop}
/-- append of bytes onto bytes of the call's own, as one step of a region that draws -/
theorem step_bytes (hgd : o.guard = none) (s x : Operand)
    (ho : o.op = .call { callee := .builtin .append, args := #[s, x], argTypes := #[23, 23] })
    (base : Nat) (v : Value) (n : Nat) (xs : List Int) (hs : a.eval s = v) (hown : w.ownsRow base 5 1 v n (nums .u8 xs))
    (B : Nat) (A : Option Addr) (m c : Nat) (zs : List Int) (hx : a.eval x = .slice A m c) (hr : Reads w B 1 A m (nums .u8 zs))
    (hlen : n + m ≤ 140737488355328) (hbase : base ≤ w.heap.size)
    (h : ∀ A' c' w', w'.ownsRow base 5 1 (.slice A' (n + m) c') (n + m) (nums .u8 (xs ++ zs)) → w.grownBy w' v.ownBlock → Below base w w' → K (a.put o.dst (.slice A' (n + m) c')) w') :
    if Region.wanted o (yielded ops a.tmps) = true then Oper.wp Tryd.prog o a w K Q else E := by
  obtain ⟨i, hi0, hz, hs1, hb1⟩ := info_parts (P := Tryd.prog) (e := 5) (z := .int .u8 0) (size := 1) (bytes := 1) (by kernel_rfl)
  refine step_append_any w hgd s x 23 ho base 5 i (.int .u8 0) 1 1 Tryd.underlying23 hi0 hz hs1 hb1 rfl (by decide) v n _ hs hown B A m c _ hx hr (nums_one _ _) (by unfold maxLen; omega) (by omega) hbase ?_
  intro v' w' h2 h3 h4
  rw [nums_append] at h2
  obtain ⟨A', c', rfl⟩ := ownsRow_slice h2
  exact h A' c' w' h2 h3 (below_grown hown h3 hbase)
end
/-- new bytes stay, whatever new memory is made behind them -/
theorem own_after {w w' : World} (base g : Nat) (zs : List Int) (n : Nat) (hg : g = w.heap.size) (hb : base ≤ g) (hn : n = zs.length) (hm : n ≤ maxLen) (h : Below (w.alloc (.cells (nums .u8 zs).toArray 5)).heap.size (w.alloc (.cells (nums .u8 zs).toArray 5)) w') :
    w'.ownsRow base 5 1 (.slice (some ⟨g, 0, none⟩) n n) n (nums .u8 zs) :=
  (own_new w base 5 .u8 zs n g hg hb hn hm).kept (row := none) ⟨h.os, h.tape, h.output, h.size, fun k hk _ => h.block k hk⟩ (.inr (by simp [Value.ownBlock]))
set_option maxRecDepth 100000 in
set_option maxHeartbeats 2000000 in
theorem frefput20 (k a b : Int) (A : Option Addr) (n c : Nat) (zs : List Int) (w : World) (h1 : 1 ≤ k) (h2 : k ≤ 255) (ha : 0 ≤ a) (ha1 : a ≤ 18446744073709551615) (hb : 0 ≤ b) (hb1 : b ≤ 18446744073709551615) (hn : n ≤ 1001)
    (hr : Reads w w.heap.size 1 A n (nums .u8 zs)) (hz : ∀ z ∈ zs, 0 ≤ z ∧ z < 256) :
    Calls Tryd.prog 9 #[.agg #[.int .i64 k, .int .u64 a, .int .u64 b, .slice A n c]] w fun e w' => ∃ A' c', e = .returned (.slice A' 1024 c') ∧ w'.ownsRow w.heap.size 5 1 (.slice A' 1024 c') 1024 (nums .u8 (sec k a b zs (smZ (hd k a b zs)))) ∧ Below w.heap.size w w' := by
  have hl : zs.length = n := by have := hr.1; simpa [nums] using this
  obtain ⟨w0, hw0⟩ : ∃ w0, w.alloc (.cells #[.int .i64 k, .int .u64 a, .int .u64 b, .slice A n c] 25) = w0 := ⟨_, rfl⟩
  have hs0 : w0.heap.size = w.heap.size + 1 := by rw [← hw0]; simp
  have hbel : Below w.heap.size w w0 := by rw [← hw0]; exact (Below.refl _ _).alloc (Nat.le_refl _) _
  have hblk : Blk w0 w.heap.size 25 #[.int .i64 k, .int .u64 a, .int .u64 b, .slice A n c] := by rw [← hw0]; exact Blk.new _ _ _
  have HR := Lib.hid hr
  have HZ := Lib.hid hz
  have HL := Lib.hid hl
  have HW0 := Lib.hid hw0
  have HB := Lib.hid hbel
  have HBW := HB
  have HK := Lib.hid hblk
  have HS0 := Lib.hid hs0
  clear hr hz hl hbel hblk hw0 hs0
  go_enter Tryd.func9, Tryd.ntmps9
  go_upto_region 1 with fail
  rw [HW0.out]
  go_cut [3] (fun s wx => ∃ A1 c1, s = .slice A1 9 c1 ∧ wx.ownsRow w0.heap.size 5 1 (.slice A1 9 c1) 9 (nums .u8 ([k] ++ be 8 a)) ∧ Below w0.heap.size w0 wx)
  case first =>
    have c0 : w0.cell? ⟨w.heap.size, 0, none⟩ = some (.int .i64 k) := HK.out.cell 0
    have c1 : w0.cell? ⟨w.heap.size, 1, none⟩ = some (.int .u64 a) := HK.out.cell 1
    have hwk : IntKind.u8.wrap k = k := IntWalk.u8_in _ (by omega)
    go_region_held3 (fun w' => w'.cell? ⟨w.heap.size, 0, none⟩ = some (.int .i64 k) ∧ w'.cell? ⟨w.heap.size, 1, none⟩ = some (.int .u64 a)) (first | (constructor <;> assumption) | go_keep)
      (first
        | (go_at_call 24
           refine (high20_any 8 a _ ha ha1 (by omega)).mono ?_
           rintro e w1 ⟨rfl, hb1, hbe1, hs1⟩
           first | have kb := HK.out.drew.below hbe1 HK.out.drew.lt | have kb := (HK.out.alloc _).drew.below hbe1 (HK.out.alloc _).drew.lt
           have k0 : w1.cell? ⟨w.heap.size, 0, none⟩ = some (.int .i64 k) := kb.cell 0
           have k1 : w1.cell? ⟨w.heap.size, 1, none⟩ = some (.int .u64 a) := kb.cell 1
           clear kb
           have hrd := hb1.reads 0 8 (by rw [be_length]; omega)
           rw [List.drop_zero, List.take_of_length_le (by rw [be_length]; exact Nat.le_refl _)] at hrd
           have hw1 : w0.heap.size ≤ w1.heap.size := by have := hbe1.size; simp at this; omega
           have HB1 := Lib.hid hbe1
           have HRD := Lib.hid hrd
           have HW1 := Lib.hid hw1
           clear hb1 hbe1 hs1 hrd hw1)
        | ((first
            | (refine step_bytes rfl (.tmp 9) (.tmp 12) rfl w0.heap.size (.slice (some ⟨w0.heap.size, 0, none⟩) 1 1) 1 [k] rfl (by exact ((own_new w0 w0.heap.size 5 .u8 [k] 1 _ rfl (Nat.le_refl _) rfl (by decide)).drew).kept (row := none) (only_of_below HB1.out none) (.inr (by simp [Value.ownBlock]))) w1.heap.size _ 8 8 (be 8 a) rfl (by simpa using HRD.out) (by omega) HW1.out ?_; intro A2 c2 w2 hown2 hgr2 hb2; have HBF : Hid (Below w0.heap.size w0 w2) := Lib.hid ((((Below.refl w0.heap.size w0).alloc (Nat.le_refl _) _).drew.trans (HB1.out.mono (by simp))).trans hb2); have kc := HK.out.below HBF.out (by have := HS0.out; omega); have q0 : w2.cell? ⟨w.heap.size, 0, none⟩ = some (.int .i64 k) := kc.cell 0; have q1 : w2.cell? ⟨w.heap.size, 1, none⟩ = some (.int .u64 a) := kc.cell 1; clear kc)
            | (refine step_bytes rfl (.tmp 9) (.tmp 12) rfl w0.heap.size (.slice (some ⟨w1.heap.size, 0, none⟩) 1 1) 1 [k] rfl (by exact own_new w1 w0.heap.size 5 .u8 [k] 1 _ rfl HW1.out rfl (by decide)) w1.heap.size _ 8 8 (be 8 a) rfl (by have h := HRD.out.alloc (Nat.le_refl _) (.cells #[.int .u8 k] 5); simpa using h) (by omega) (by have := HW1.out; simp; omega) ?_; intro A2 c2 w2 hown2 hgr2 hb2; have HBF : Hid (Below w0.heap.size w0 w2) := Lib.hid ((((Below.refl w0.heap.size w0).drew.trans HB1.out).alloc HW1.out _).trans hb2); have kc := HK.out.below HBF.out (by have := HS0.out; omega); have q0 : w2.cell? ⟨w.heap.size, 0, none⟩ = some (.int .i64 k) := kc.cell 0; have q1 : w2.cell? ⟨w.heap.size, 1, none⟩ = some (.int .u64 a) := kc.cell 1; clear kc))))
    all_goals
      go_wp2_with fail
      go_meet
      exact ⟨_, _, rfl, hown2, HBF.out⟩
  case rest =>
    obtain ⟨A1, c1, rfl, hown, hbel⟩ := hcut
    have hkc := HK.out.below hbel (by have := HS0.out; omega)
    have HKC := Lib.hid hkc
    have HO := Lib.hid hown
    have HBL := Lib.hid hbel
    have HSC : Hid (w0.heap.size ≤ wc.heap.size) := Lib.hid hbel.size
    have h8 : ((8 : Nat) : Int) = 8 := rfl
    go_upto_region 2 with fail
    go_cut [3] (fun s wx => ∃ A1 c1, s = .slice A1 19 c1 ∧ wx.ownsRow w0.heap.size 5 1 (.slice A1 19 c1) 19 (nums .u8 ([k] ++ be 8 a ++ be 8 b ++ be 2 (n : Int))) ∧ Below w0.heap.size w0 wx)
    case first =>
      have d2 : wc.cell? ⟨w.heap.size, 2, none⟩ = some (.int .u64 b) := hkc.cell 2
      have d3 : wc.cell? ⟨w.heap.size, 3, none⟩ = some (.slice A n c) := hkc.cell 3
      obtain ⟨g, cap, hA1, hg0, hg1⟩ := hown.form (by omega)
      injection hA1 with hA1 _ hcap
      subst hA1 hcap
      have OWN := Lib.hid hown
      have hsz := HSC.out
      clear hkc hown hbel HO
      have C8 : ∀ W, Calls Tryd.prog 24 #[.int .u64 b, .int .i64 8] W fun e w' => e = .returned (.slice (some ⟨W.heap.size, 0, none⟩) 8 8) ∧ Blk w' W.heap.size 5 (nums .u8 (be 8 b)).toArray ∧ Below W.heap.size W w' ∧ w'.heap.size = W.heap.size + 1 := fun W => high20_any 8 b W hb hb1 (by omega)
      have C2 : ∀ W, Calls Tryd.prog 24 #[.int .u64 (n : Int), .int .i64 2] W fun e w' => e = .returned (.slice (some ⟨W.heap.size, 0, none⟩) 2 2) ∧ Blk w' W.heap.size 5 (nums .u8 (be 2 (n : Int))).toArray ∧ Below W.heap.size W w' ∧ w'.heap.size = W.heap.size + 1 := fun W => high20_any 2 (n : Int) W (by omega) (by omega) (by omega)
      have hwn : IntKind.u64.wrap (n : Int) = (n : Int) := IntWalk.u64_in _ (by omega)
      have HC8 := Lib.hid C8
      have HC2 := Lib.hid C2
      clear C8 C2
      go_region_held3 (fun w' => w'.cell? ⟨w.heap.size, 2, none⟩ = some (.int .u64 b) ∧ w'.cell? ⟨w.heap.size, 3, none⟩ = some (.slice A n c)) (first | (constructor <;> assumption) | go_keep)
        (first
          | (go_at_call 24
             first
               | ((with_reducible refine (HC8.out _).mono ?_)
                  rintro e w1 ⟨rfl, k1, e1, _⟩
                  have K1 := Lib.hid k1
                  have OWN := Lib.hid (OWN.out.drew.kept (row := none) (only_of_below e1 none) (.inr (by simp [Value.ownBlock])))
                  have BL : Hid (Below w0.heap.size w0 w1) := Lib.hid (HBL.out.drew.trans (e1.mono (by exact hsz)))
                  have kc := HK.out.below BL.out (by have := HS0.out; omega)
                  have q2 : w1.cell? ⟨w.heap.size, 2, none⟩ = some (.int .u64 b) := kc.cell 2
                  have q3 : w1.cell? ⟨w.heap.size, 3, none⟩ = some (.slice A n c) := kc.cell 3
                  have hs1 : wc.heap.size < w1.heap.size := by have := k1.lt; simpa using this
                  clear k1 e1 kc)
               | ((with_reducible refine (HC2.out _).mono ?_)
                  rintro e w3 ⟨rfl, k2, e2, _⟩
                  have K2 := Lib.hid k2
                  try have K1 := Lib.hid (K1.out.below e2 K1.out.lt)
                  have OWN := Lib.hid (OWN.out.kept (row := none) (only_of_below e2 none) (.inr (by simp [Value.ownBlock])))
                  have BL : Hid (Below w0.heap.size w0 w3) := Lib.hid (BL.out.trans (e2.mono (by exact BL.out.size)))
                  have kc := HK.out.below BL.out (by have := HS0.out; omega)
                  have q2 : w3.cell? ⟨w.heap.size, 2, none⟩ = some (.int .u64 b) := kc.cell 2
                  have q3 : w3.cell? ⟨w.heap.size, 3, none⟩ = some (.slice A n c) := kc.cell 3
                  clear k2 e2 kc))
          | ((
               refine step_bytes rfl (.tmp 14) (.tmp 17) rfl w0.heap.size (.slice (some ⟨g, 0, none⟩) 9 c1) 9 ([k] ++ be 8 a) rfl (by exact OWN.out) _ _ 8 8 (be 8 b) rfl (by have h := K1.out.reads 0 8 (by rw [be_length]; omega); rw [List.drop_zero, List.take_of_length_le (by rw [be_length]; exact Nat.le_refl _)] at h; simpa using h) (by omega) (by exact BL.out.size) ?_
               intro A4 c4 w4 hown4 hgr4 hb4
               obtain ⟨g4, cap4, hA4, hg40, hg41⟩ := hown4.form (by omega)
               injection hA4 with hA4 _ hcap4
               subst hA4 hcap4
               have BL : Hid (Below w0.heap.size w0 w4) := Lib.hid (BL.out.trans hb4)
               try have K2 := Lib.hid (K2.out.grown hgr4 (by simp [Value.ownBlock]; omega))
               have OWN := Lib.hid hown4
               have kc := HK.out.below BL.out (by have := HS0.out; omega)
               have q2 : w4.cell? ⟨w.heap.size, 2, none⟩ = some (.int .u64 b) := kc.cell 2
               have q3 : w4.cell? ⟨w.heap.size, 3, none⟩ = some (.slice A n c) := kc.cell 3
               clear hown4 hgr4 hb4 kc))
          | ((
               refine step_bytes rfl (.tmp 18) (.tmp 23) rfl w0.heap.size _ 17 ([k] ++ be 8 a ++ be 8 b) rfl (by exact OWN.out) _ _ 2 2 (be 2 (n : Int)) rfl (by have h := K2.out.reads 0 2 (by rw [be_length]; omega); rw [List.drop_zero, List.take_of_length_le (by rw [be_length]; exact Nat.le_refl _)] at h; simpa using h) (by omega) (by exact BL.out.size) ?_
               intro A6 c6 w6 hown6 hgr6 hb6
               have BL6 : Hid (Below w0.heap.size w0 w6) := Lib.hid (BL.out.trans hb6)
               have OWN6 := Lib.hid hown6
               have kc := HK.out.below BL6.out (by have := HS0.out; omega)
               have q2 : w6.cell? ⟨w.heap.size, 2, none⟩ = some (.int .u64 b) := kc.cell 2
               have q3 : w6.cell? ⟨w.heap.size, 3, none⟩ = some (.slice A n c) := kc.cell 3
               clear hown6 hgr6 hb6 kc)))
      all_goals
        go_wp2_with fail
        go_meet
        exact ⟨_, _, rfl, OWN6.out, BL6.out⟩
    case rest =>
      obtain ⟨A2, c2, rfl, hown2, hbel2⟩ := hcut
      have hkc2 := HK.out.below hbel2 (by have := HS0.out; omega)
      have d3 : wc.cell? ⟨w.heap.size, 3, none⟩ = some (.slice A n c) := hkc2.cell 3
      have hrw := HR.out.below (HB.out.trans (hbel2.mono HB.out.size))
      have HBL2 := Lib.hid hbel2
      clear hkc2 hkc hbel2
      go_wp2_with (at_builtin; refine wpl_bytes rfl (.tmp 25) (.tmp 27) rfl w0.heap.size _ 19 ([k] ++ be 8 a ++ be 8 b ++ be 2 (n : Int)) rfl hown2 w.heap.size A n c zs rfl hrw ?c1 ?c2 ?_)
      case c1 => omega
      case c2 => exact HBL2.out.size
      intro A3 c3 w3 hown3 hgr3 hb3 hor3
      have HB3 := Lib.hid (HBL2.out.trans hb3)
      have HO3 := Lib.hid hown3
      clear hown3 hgr3 hb3 hor3 hown2 hrw d3
      go_wp2_with fail
      obtain ⟨fz, hfz⟩ : ∃ fz, k :: (be 8 a ++ (be 8 b ++ (be 2 (n : Int) ++ zs))) = fz := ⟨_, rfl⟩
      rw [hfz, show nums .u8 fz = nums .u8 (fz ++ List.replicate 0 0) by simp] at HO3
      have hfe : fz ++ List.replicate (1001 - n) 0 = hd k a b zs := by rw [← hfz, ← HL.out]; simp [hd]
      have HFE := Lib.hid hfe
      have hfb : ∀ z ∈ hd k a b zs, 0 ≤ z ∧ z < 256 := hd_bytes k a b zs (by omega) HZ.out
      have HFB := Lib.hid hfb
      clear hfz hfe hfb
      go_loopw [3] (fun s wr => ∃ (j : Nat) (A4 : Option Addr) (c4 : Nat), j ≤ 1001 - n ∧ s = .slice A4 (19 + n + j) c4 ∧ wr.ownsRow w0.heap.size 5 1 (.slice A4 (19 + n + j) c4) (19 + n + j) (nums .u8 (fz ++ List.replicate j 0)) ∧ Below w0.heap.size w0 wr) (fun s _ => match s with | .slice _ m _ => 1020 - m | _ => 0)
      case atStart => exact ⟨0, A3, c3, by omega, rfl, HO3.out, HB3.out⟩
      case round =>
        obtain ⟨j, A4, c4, hj, rfl, hown, hbel⟩ := hrel
        have hsz := hbel.size
        have HB := Lib.hid hbel
        clear hbel
        by_cases hlt : 19 + n + j < 1020
        · go_wp2_with (at_builtin; refine wpl_bytes rfl (.tmp 32) (.tmp 33) rfl w0.heap.size _ (19 + n + j) (fz ++ List.replicate j 0) rfl ?o4 (wr.heap.size + 1) (some ⟨wr.heap.size, 0, none⟩) 1 1 [0] rfl ?r4 ?c7 ?c8 ?_)
          case o4 => exact hown.alloc _
          case r4 => exact reads_new wr (nums .u8 [0]) 5 (0, 0) 1 _ _ rfl rfl (by omega)
          case c7 => omega
          case c8 => simp; omega
          intro A5 c5 w5 hown5 hgr5 hb5 hor5
          have hbD := Lib.hid (HB.out.trans (((Below.refl _ _).alloc hsz _).trans hb5))
          try rw [List.append_assoc] at hown5
          rw [show List.replicate j (0 : Int) ++ [0] = List.replicate (j + 1) 0 from List.replicate_succ'.symm] at hown5
          have HO5 := Lib.hid hown5
          clear hgr5 hor5 hb5 hown5 hown
          go_wp2_with fail
          go_roundw
          case rel => exact ⟨j + 1, A5, c5, by omega, rfl, HO5.out, hbD.out⟩
          case measure => simp; omega
        · obtain rfl : j = 1001 - n := by omega
          rw [HFE.out, show 19 + n + (1001 - n) = 1020 by omega] at hown
          rw [show 19 + n + (1001 - n) = 1020 by omega]
          clear hlt
          have cs := refsum_any A4 1020 c4 (hd k a b zs) wr (own_reads hown) HFB.out (by omega)
          obtain ⟨r, hr⟩ : ∃ r, Crc.more 0#32 (hd k a b zs) = r := ⟨_, rfl⟩
          rw [hr] at cs
          have HRR := Lib.hid hr
          have HO := Lib.hid hown
          have hrl := r.isLt
          clear hr hown hj
          go_wp2_with fail
          refine cs.mono ?_
          rintro e w' ⟨rfl, rfl⟩
          go_wp2_with fail
          obtain ⟨hz, hhz⟩ : ∃ hz, hd k a b zs = hz := ⟨_, rfl⟩
          rw [hhz] at HO
          have HHZ := Lib.hid hhz
          clear hhz cs
          go_loopw [3, 4, 5] (fun s x i wr => ∃ (j : Nat) (A3 : Option Addr) (c3 : Nat), j ≤ 4 ∧ i = .int .i64 j ∧ x = .int .u32 ((r.toNat : Int) / 256 ^ j) ∧ s = .slice A3 (1020 + j) c3 ∧ wr.ownsRow w0.heap.size 5 1 (.slice A3 (1020 + j) c3) (1020 + j) (nums .u8 (hz ++ (bytesZ r).take j)) ∧ Below w0.heap.size w0 wr) (fun _ _ i _ => 4 - (intOf i).toNat)
          case atStart => exact ⟨0, A4, c4, by omega, rfl, by simp, rfl, by simpa using HO.out, HB.out⟩
          case round =>
            obtain ⟨j, A5, c5, hj, rfl, rfl, rfl, hown, hbel⟩ := hrel
            have hsz := hbel.size
            by_cases hlt : j < 4
            · have hd := Lib.hid (div256 r j)
              have y0 : 0 ≤ (r.toNat : Int) / 256 ^ j := Int.ediv_nonneg (by omega) (Int.pow_nonneg (by decide))
              have y1 : (r.toNat : Int) / 256 ^ j ≤ 4294967295 := Int.le_trans (Int.ediv_le_self _ (by omega)) (by omega)
              have hbs := Lib.hid (bytesZ_succ r j hlt)
              have HB := Lib.hid hbel
              clear hbel
              generalize (r.toNat : Int) / 256 ^ j = y at y0 y1 hd hbs
              go_wp2_with (at_builtin; refine wpl_bytes rfl (.tmp 41) (.tmp 45) rfl w0.heap.size _ (1020 + j) (hz ++ (bytesZ r).take j) rfl ?o6 (wr.heap.size + 1) (some ⟨wr.heap.size, 0, none⟩) 1 1 [y % 256] rfl ?r6 ?c9 ?c10 ?_)
              case o6 => exact hown.alloc _
              case r6 => exact reads_new wr (nums .u8 [y % 256]) 5 (0, 0) 1 _ _ rfl rfl (by omega)
              case c9 => omega
              case c10 => simp; omega
              intro A6 c6 w6 hown6 hgr6 hb6 hor6
              try rw [List.append_assoc] at hown6
              rw [← hbs.out] at hown6
              have hbD := Lib.hid (HB.out.trans (((Below.refl _ _).alloc hsz _).trans hb6))
              have HO6 := Lib.hid hown6
              clear hgr6 hor6 hb6 hown6 hown
              go_wp2_with fail
              go_roundw
              case rel => exact ⟨j + 1, A6, c6, by omega, by go_num, by rw [hd.out], rfl, HO6.out, hbD.out⟩
              case measure => simp [intOf]; omega
            · obtain rfl : j = 4 := by omega
              have e3 : nums .u8 (hz ++ (bytesZ r).take 4) = nums .u8 (sec k a b zs (smZ (hd k a b zs))) := by
                rw [show (bytesZ r).take 4 = bytesZ r from rfl, ← HRR.out, HHZ.out]
                unfold sec smZ
                rw [HHZ.out]
              rw [e3] at hown
              have HO4 := Lib.hid (hown.mono HBW.out.size)
              have HB := Lib.hid (HBW.out.trans (hbel.mono HBW.out.size))
              clear hown hbel e3
              go_wp2
              go_ret
              exact ⟨A5, c5, rfl, HO4.out, HB.out⟩
end Go.Proofs.YtlohbkcedpkjaaaDoor
