/-
  The law CrcBursts, walked.
-/
import Derived.Test.YtfgkbghagklacaaDoorWCrcC
import Derived.Test.YtfgkbghagklacaaDoorLCrcSums
import Derived.Test.YtfgkbghagklacaaDoorApp
import Derived.Test.YtfgkbghagklacaaDoorBurst
import Derived.Outline
namespace Go.Proofs.YtfgkbghagklacaaDoor
open Go.RowKit
set_option linter.unusedVariables false
open Crc (xb bst sameB)
theorem u8_xb (a b : Int) (ha : 0 ≤ a ∧ a < 256) (hb : 0 ≤ b ∧ b < 256) : bits .xor .u8 a b = xb a b := u8_xor a b ha.1 ha.2 hb.1 hb.2
/-- four bytes in an array -/
theorem vec4 {w : World} {B : Nat} {vs : List Value} {a : Vec 4 (Nm .u8)} (h : Lay.lies w B vs a) : ∃ ys : List Int, ys.length = 4 ∧ (∀ z ∈ ys, 0 ≤ z ∧ z < 256) ∧ vs = nums .u8 ys := by
  obtain ⟨l, hl⟩ := a
  obtain ⟨h1, h2⟩ := h
  match l, hl with
  | [y0, y1, y2, y3], _ =>
    refine ⟨zsOf [y0, y1, y2, y3], rfl, zsOf_u8 _, ?_⟩
    have hs : vs.length = 4 := h1
    match vs, hs with
    | [v0, v1, v2, v3], _ =>
      have g0 : [v0] = [.int .u8 y0.z] := h2 0 y0 rfl
      have g1 : [v1] = [.int .u8 y1.z] := h2 1 y1 rfl
      have g2 : [v2] = [.int .u8 y2.z] := h2 2 y2 rfl
      have g3 : [v3] = [.int .u8 y3.z] := h2 3 y3 rfl
      simp only [List.cons.injEq, and_true] at g0 g1 g2 g3
      rw [g0, g1, g2, g3]
      rfl
theorem nums_set (k : IntKind) (zs : List Int) (i : Nat) (z : Int) : (nums k zs).set i (.int k z) = nums k (zs.set i z) := by
  unfold nums
  rw [List.map_set]
theorem nums_get {k : IntKind} {zs : List Int} {i : Nat} {z : Int} (h : zs[i]? = some z) : (nums k zs)[i]? = some (.int k z) := by
  unfold nums
  rw [List.getElem?_map, h]; rfl
theorem law_CrcBursts (w : World) (ht : Tab w) (A0 : Option Addr) (n0 c0 : Nat) (xs0 : List (Nm .u8)) (hn0 : n0 ≤ c0) (hc0 : c0 ≤ maxLen) (hA0 : A0 = none → c0 = 0) (hl0 : LiesSlice w w.heap.size A0 n0 xs0) (x1 : Nm .i64) (vs2 : List Value) (a2 : Vec 4 (Nm .u8)) (hl2 : Lay.lies w w.heap.size vs2 a2) :
    Calls Tryd.prog 4 #[.slice A0 n0 c0, .int .i64 x1.z, .agg vs2.toArray] w fun e w' => e = .returned (.bool true) ∧ Below w.heap.size w w' := by
  obtain ⟨ys, hy4, hyb, rfl⟩ := vec4 hl2
  obtain ⟨hat, hat'⟩ := x1.i64
  unfold maxLen at hc0
  have hn : n0 ≤ 9223372036854775807 := by omega
  have hr := hl0.reads
  have hz := zsOf_u8 xs0
  generalize zsOf xs0 = zs at hr hz
  generalize x1.z = q at hat hat'
  have c5 := awake06 (w.alloc (.cells (nums .u8 ys).toArray 28)) (ht.alloc _)
  have HR := Lib.hid hr
  have HZ := Lib.hid hz
  have HY4 := Lib.hid hy4
  have HYB := Lib.hid hyb
  have HT := Lib.hid ht
  clear hr hz hl0 hA0 hl2 hy4 hyb ht
  by_cases hlt : 5000 < n0
  · go_enter Tryd.func4, Tryd.ntmps4
    go_wp2_with fail
    refine c5.mono ?_
    rintro e w' ⟨rfl, hb⟩
    go_wp2
    go_ret
    exact ⟨rfl, ((Below.refl _ _).alloc (Nat.le_refl _) _).trans (hb.mono (by simp))⟩
  by_cases hq0 : q < 0
  · go_enter Tryd.func4, Tryd.ntmps4
    go_wp2_with fail
    refine c5.mono ?_
    rintro e w' ⟨rfl, hb⟩
    go_wp2
    go_ret
    exact ⟨rfl, ((Below.refl _ _).alloc (Nat.le_refl _) _).trans (hb.mono (by simp))⟩
  obtain ⟨p, rfl⟩ := Int.eq_ofNat_of_zero_le (by omega : 0 ≤ q)
  by_cases hq1 : n0 ≤ p
  · go_enter Tryd.func4, Tryd.ntmps4
    go_wp2_with fail
    refine c5.mono ?_
    rintro e w' ⟨rfl, hb⟩
    go_wp2
    go_ret
    exact ⟨rfl, ((Below.refl _ _).alloc (Nat.le_refl _) _).trans (hb.mono (by simp))⟩
  clear c5 hat hat' hq0
  have HL : Hid (zs.length = n0) := Lib.hid (by have := HR.out.1; simpa [nums_length] using this)
  go_enter Tryd.func4, Tryd.ntmps4
  go_wp2_with (at_builtin; refine wpl_bytes rfl (.tmp 24) (.tmp 25) rfl (w.heap.size + 1) _ 0 [] rfl ?o1 w.heap.size A0 n0 c0 zs rfl ?r1 ?c1 ?c2 ?_)
  case o1 => exact own_empty _ _ _ _ (by simp) (by omega)
  case r1 => exact (HR.out.alloc (Nat.le_refl _) _).alloc (by simp) _
  case c1 => omega
  case c2 => simp
  intro A1 c1 w1 hown1 hgr1 hb1 hor1
  try simp only [Nat.zero_add, List.nil_append] at hown1
  clear hor1
  obtain ⟨g, cap, hA1, hg0, hg1⟩ := hown1.form (by omega)
  injection hA1 with hA1 _ hcap
  subst hA1 hcap
  have hz1 : w.heap.size + 1 < w1.heap.size := by have := hgr1.size; simp at this; omega
  have hbx : Reads w1 (w.heap.size + 1) 1 (some ⟨w.heap.size, 0, none⟩) 4 (nums .u8 ys) :=
    ((reads_new w (nums .u8 ys) 28 (0, 0) 4 _ (w.heap.size + 1) rfl (by simp [nums, HY4.out]) (by omega)).alloc (by simp) _).grown hgr1 (by simp) (by intro g hg; simp [Value.ownBlock] at hg; omega)
  have HB := Lib.hid hbx
  have HB1 := Lib.hid hb1
  clear hbx hgr1 hb1
  have HO := Lib.hid hown1
  clear hown1
  go_wp2_with fail
  go_loopw [8, 9] (fun s i wr => ∃ k : Nat, k ≤ 4 ∧ p + k ≤ n0 ∧ i = .int .i64 k ∧ s = .bool (sameB ys k) ∧ wr.ownsRow (w.heap.size + 1) 5 1 (.slice (some ⟨g, 0, none⟩) n0 c1) n0 (nums .u8 (bst zs p ys k)) ∧ Below (w.heap.size + 1) w1 wr) (fun _ i _ => 4 - (intOf i).toNat)
  case atStart => exact ⟨0, by omega, by omega, rfl, rfl, by rw [Crc.bst_zero]; exact HO.out, Below.refl _ _⟩
  case round =>
    obtain ⟨k, hk4, hkn, rfl, rfl, hown, hbel⟩ := hrel
    obtain ⟨sb, hsb⟩ : ∃ sb, sameB ys k = sb := ⟨_, rfl⟩
    rw [hsb]
    have HS := Lib.hid hsb
    clear hsb
    by_cases hboth : k < 4 ∧ k < n0 - p
    · obtain ⟨h4, hn4⟩ := hboth
      · have hlt2 : p + k < zs.length := by rw [HL.out]; omega
        have e1 : (nums .u8 (bst zs p ys k))[p + k]? = some (.int .u8 (zs.getD (p + k) 0)) := nums_get (Crc.bst_at hlt2)
        have e2 : (nums .u8 ys)[k]? = some (.int .u8 (ys.getD k 0)) := nums_get (by rw [List.getElem?_eq_getElem (by rw [HY4.out]; omega)]; simp [List.getD, HY4.out, h4])
        have bz := Crc.getD_byte HZ.out (p + k)
        have by_ := Crc.getD_byte HYB.out k
        have HX := Lib.hid (u8_xb _ _ bz by_)
        have HSet := Lib.hid (Crc.bst_set (ys := ys) hlt2)
        have HSame := Lib.hid (Crc.sameB_succ (ys := ys) (k := k))
        generalize zs.getD (p + k) 0 = z at e1 bz HX HSet
        generalize ys.getD k 0 = y at e2 by_ HX HSet HSame
        have hc1 : wr.cell? ⟨g, p + k, none⟩ = some (.int .u8 z) := by rw [hown.cellAt (p + k) (by omega), e1]
        have hf1 : wr.frozen? ⟨g, p + k, none⟩ = false := hown.frozenAt (p + k)
        have hc2 : wr.cell? ⟨w.heap.size, k, none⟩ = some (.int .u8 y) := by
          obtain ⟨b, off, u, hA, _, hu, hc⟩ := (HB.out.below hbel).at_ h4
          injection hA with hA
          injection hA with hA hA2
          subst hA hA2
          rw [e2] at hu
          injection hu with hu
          subst hu
          simpa using hc
        have hx := HX.out
        generalize xb z y = x at HX HSet hx
        have HOw := Lib.hid hown
        have HBl := Lib.hid hbel
        clear e1 e2 hown hbel
        obtain ⟨z0, z1⟩ := bz
        obtain ⟨y0, y1⟩ := by_
        have hst := HOw.out.stored (p + k) (.int .u8 x)
        rw [nums_set, HSet.out] at hst
        have HO2 := Lib.hid hst.1
        have HB2 : Hid (g ≥ w.heap.size + 1) := hg0
        clear hst
        cases sb
        all_goals
          go_wp2_with fail
          go_region
          go_wp2_with fail
          go_roundw
          case rel => exact ⟨k + 1, by omega, by omega, by go_num, by rw [HSame.out, HS.out]; rfl, HO2.out.drew, (HBl.out.setCell (by have := HB2.out; exact this) _).drew⟩
          case measure => simp [intOf]; omega
    · have hcs : 4 ≤ k ∨ (k < 4 ∧ n0 - p ≤ k) := by omega
      have hq : (((Crc.more 0#32 zs).toNat : Int) == ((Crc.more 0#32 (bst zs p ys k)).toNat : Int)) = sb := by
        have hiff := Crc.bst_more (k := k) (p := p) 0#32 HZ.out HYB.out (by rw [HL.out]; omega) hk4
        rw [← HS.out, Bool.eq_iff_iff, ← hiff, beq_iff_eq]
        exact ⟨fun h => BitVec.eq_of_toNat_eq (by omega), fun h => by rw [h]⟩
      have hba : Below w.heap.size w wr := (((Below.refl _ _).alloc (Nat.le_refl _) _).alloc (by simp) _).trans ((HB1.out.trans hbel).mono (by omega))
      have hbz : w.heap.size ≤ wr.heap.size := hba.size
      have ca := sum_any A0 n0 c0 zs wr (HT.out.below hba (Nat.le_refl _)) ((HR.out.below hba).more hbz) HZ.out hn
      have cb := sum_any (some ⟨g, 0, none⟩) n0 c1 (bst zs p ys k) wr (HT.out.below hba (Nat.le_refl _)) (own_reads hown) (Crc.bst_bytes HZ.out HYB.out) hn
      have cc := awake06 wr (HT.out.below hba (Nat.le_refl _))
      generalize Crc.more 0#32 zs = s1 at ca hq
      generalize Crc.more 0#32 (bst zs p ys k) = s2 at cb hq
      have HBA := Lib.hid hba
      have HQ := Lib.hid hq
      clear hown hbel hboth hba hq
      rcases hcs with h4 | ⟨h4, hn4⟩
      all_goals
        go_wp2_with fail
        refine ca.mono ?_
        rintro e w' ⟨rfl, rfl⟩
        go_wp2_with fail
        refine cb.mono ?_
        rintro e w' ⟨rfl, rfl⟩
        have hq := HQ.out
        go_wp2_with fail
        refine cc.mono ?_
        rintro e w' ⟨rfl, hb⟩
        go_wp2
        go_ret
        exact ⟨rfl, HBA.out.trans (hb.mono hbz)⟩
end Go.Proofs.YtfgkbghagklacaaDoor
