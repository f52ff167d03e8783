/-
  The law FrameFinds: the plain law, and the walk.
-/
import Derived.Test.YtfgkbghagklacaaDoorLFramePuts
import Derived.Test.YtfgkbghagklacaaDoorLCrcBursts
namespace Go.Proofs.YtfgkbghagklacaaDoor
open Go.RowKit
open Byts Fram
open Crc (xb bst sameB)
set_option linter.unusedVariables false
/-- bytes followed by their sum have one and the same sum -/
theorem residue (l : List Int) : Crc.more 0#32 (l ++ smZ l) = ~~~ Crc.stN 32 (BitVec.allOnes 32) := by
  rw [Crc.more_append]
  unfold smZ
  generalize Crc.more 0#32 l = r
  unfold Crc.more
  rw [bytesZ_wd, Crc.run_le _ ?h1 (by simp [Crc.bytes4]), Crc.le_bytes4]
  case h1 =>
    intro x hx
    simp only [Crc.bytes4, List.mem_cons, List.not_mem_nil, or_false] at hx
    rcases hx with rfl | rfl | rfl | rfl <;> exact Crc.b0_byt _
  congr 2
  rw [Crc.not_xor', BitVec.xor_comm, ← BitVec.xor_assoc, BitVec.xor_self, BitVec.zero_xor]
theorem getD_take (l l' : List Int) (m i : Nat) (hi : i < m) (h : l.take m = l'.take m) : l.getD i 0 = l'.getD i 0 := by
  have h1 : l[i]? = l'[i]? := by
    have := congrArg (fun t => t[i]?) h
    simpa [List.getElem?_take, hi] using this
  simp [List.getD, h1]
theorem finds (zs ys : List Int) (p k : Nat) (hz : ∀ z ∈ zs, 0 ≤ z ∧ z < 256) (hy : ∀ z ∈ ys, 0 ≤ z ∧ z < 256) (hl : zs.length ≤ 60000) (hk : k ≤ 4) (hp : 4 + p + k ≤ 8 + zs.length) :
    (sameB ys k = true → gB smZ (bst (frm smZ zs) (4 + p) ys k) = zs ∧ gE smZ (bst (frm smZ zs) (4 + p) ys k) = 0) ∧
    (sameB ys k = false → gB smZ (bst (frm smZ zs) (4 + p) ys k) = [] ∧ gN smZ (bst (frm smZ zs) (4 + p) ys k) = 0 ∧ gE smZ (bst (frm smZ zs) (4 + p) ys k) = 13) := by
  have hfl := frm_length smZ smZ_length zs
  have hfb := frm_bytes zs hz
  have hg := gE_frm smZ smZ_length zs [] hl
  rw [List.append_nil] at hg
  have hb := gB_frm smZ smZ_length zs [] hl
  rw [List.append_nil] at hb
  constructor
  · intro hs
    rw [Crc.bst_same hfb (by rw [hfl]; exact hp) hs]
    exact ⟨hb.1, hg.2⟩
  · intro hs
    have hm := Crc.bst_more (k := k) (p := 4 + p) 0#32 hfb hy (by rw [hfl]; exact hp) hk
    have hX := Crc.bst_length (zs := frm smZ zs) (ys := ys) (p := 4 + p) (k := k) (by rw [hfl]; exact hp)
    have ht : (bst (frm smZ zs) (4 + p) ys k).take 4 = (frm smZ zs).take 4 := by
      unfold bst
      rw [List.take_append_of_le_length (by simp; omega), List.take_take]
      congr 1; omega
    generalize bst (frm smZ zs) (4 + p) ys k = X at hm hX ht
    have hd := fun i (hi : i < 4) => getD_take X (frm smZ zs) 4 i hi ht
    have hn : nZ X = zs.length := by
      rw [← hg.1]
      unfold nZ
      rw [hd 1 (by omega), hd 2 (by omega), hd 3 (by omega)]
    have h0 : X.getD 0 0 = 181 := by
      rw [hd 0 (by omega)]; rfl
    have he : gE smZ X = 13 := by
      unfold gE
      rw [if_neg (by rw [h0]; simp), hn, if_neg (by omega), if_neg (by rw [hX, hfl]; omega), if_pos]
      intro hc
      rw [Int.toNat_natCast] at hc
      have hsplit : X = X.take (4 + zs.length) ++ smZ (X.take (4 + zs.length)) := by
        rw [← hc]
        conv => lhs; rw [← List.take_append_drop (4 + zs.length) X]
        congr 1
        rw [List.take_of_length_le (by simp; omega)]
      have hr : Crc.more 0#32 (frm smZ zs) = Crc.more 0#32 X := by
        rw [hsplit, residue]
        exact residue _
      rw [hm, hs] at hr
      cases hr
    refine ⟨?_, ?_, he⟩
    · unfold gB; rw [if_neg (by rw [he]; decide)]
    · unfold gN; rw [if_neg (by rw [he]; decide)]
set_option maxRecDepth 100000 in
set_option maxHeartbeats 1000000 in
theorem law_FrameFinds (w : World) (ht : Tab w) (A0 : Option Addr) (n0 c0 : Nat) (xs0 : List (Nm .u8)) (hn0 : n0 ≤ c0) (hc0 : c0 ≤ maxLen) (hA0 : A0 = none → c0 = 0) (hl0 : LiesSlice w w.heap.size A0 n0 xs0) (x1 : Nm .i64) (vs2 : List Value) (a2 : Vec 4 (Nm .u8)) (hl2 : Lay.lies w w.heap.size vs2 a2) :
    Calls Tryd.prog 9 #[.slice A0 n0 c0, .int .i64 x1.z, .agg vs2.toArray] w fun e w' => e = .returned (.bool true) ∧ Below w.heap.size w w' := by
  obtain ⟨ys, hy4, hyb, rfl⟩ := vec4 hl2
  obtain ⟨hat, hat'⟩ := x1.i64
  unfold maxLen at hc0
  have hn : n0 ≤ 9223372036854775807 := by omega
  have hr := hl0.reads
  have hz := zsOf_u8 xs0
  generalize zsOf xs0 = zs at hr hz
  generalize x1.z = q at hat hat'
  have c5 := awake09 (w.alloc (.cells (nums .u8 ys).toArray 28)) (ht.alloc _)
  have HR := Lib.hid hr
  have HZ := Lib.hid hz
  have HY4 := Lib.hid hy4
  have HYB := Lib.hid hyb
  have HT := Lib.hid ht
  clear hr hz hl0 hA0 hl2 hy4 hyb ht
  by_cases hlt : 2000 < n0
  · go_enter Tryd.func9, Tryd.ntmps9
    go_wp2_with fail
    refine c5.mono ?_
    rintro e w' ⟨rfl, hb⟩
    go_wp2
    go_ret
    exact ⟨rfl, ((Below.refl _ _).alloc (Nat.le_refl _) _).trans (hb.mono (by simp))⟩
  by_cases hq0 : q < 0
  · go_enter Tryd.func9, Tryd.ntmps9
    go_wp2_with fail
    refine c5.mono ?_
    rintro e w' ⟨rfl, hb⟩
    go_wp2
    go_ret
    exact ⟨rfl, ((Below.refl _ _).alloc (Nat.le_refl _) _).trans (hb.mono (by simp))⟩
  obtain ⟨p, rfl⟩ := Int.eq_ofNat_of_zero_le (by omega : 0 ≤ q)
  by_cases hq1 : n0 + 3 < p
  · go_enter Tryd.func9, Tryd.ntmps9
    go_wp2_with fail
    refine c5.mono ?_
    rintro e w' ⟨rfl, hb⟩
    go_wp2
    go_ret
    exact ⟨rfl, ((Below.refl _ _).alloc (Nat.le_refl _) _).trans (hb.mono (by simp))⟩
  clear c5 hat hat' hq0
  have HL : Hid (zs.length = n0) := Lib.hid (by have := HR.out.1; simpa [nums_length] using this)
  have cp := frefput_any A0 n0 c0 zs (w.alloc (.cells (nums .u8 ys).toArray 28)) (by omega) ((HR.out.alloc (Nat.le_refl _) _).more (by simp)) HZ.out
  unfold FRef at cp
  rw [HL.out] at cp
  go_enter Tryd.func9, Tryd.ntmps9
  go_wp2_with fail
  refine cp.mono ?_
  rintro e w1 ⟨A1, c1, rfl, hown1, hb1⟩
  rw [show (w.alloc (.cells (nums .u8 ys).toArray 28)).heap.size = w.heap.size + 1 by simp] at hown1 hb1
  obtain ⟨g, cap, hA1, hg0, hg1⟩ := hown1.form (by omega)
  injection hA1 with hA1 _ hcap
  subst hA1 hcap
  have hz1 : w.heap.size + 1 ≤ w1.heap.size := by have := hb1.size; simpa using this
  have hbx : Reads w1 (w.heap.size + 1) 1 (some ⟨w.heap.size, 0, none⟩) 4 (nums .u8 ys) :=
    (reads_new w (nums .u8 ys) 28 (0, 0) 4 _ (w.heap.size + 1) rfl (by simp [nums, HY4.out]) (by omega)).below hb1
  have HB := Lib.hid hbx
  have HB1 := Lib.hid hb1
  clear hbx hb1
  have HO := Lib.hid hown1
  clear hown1 cp
  obtain ⟨fz, hfz⟩ : ∃ fz, frm smZ zs = fz := ⟨_, rfl⟩
  have hfl : fz.length = 8 + n0 := by rw [← hfz, frm_length smZ smZ_length, HL.out]
  have hfb : ∀ z ∈ fz, 0 ≤ z ∧ z < 256 := by rw [← hfz]; exact frm_bytes zs HZ.out
  rw [hfz] at HO
  have HFZ := Lib.hid hfz
  have HFL := Lib.hid hfl
  have HFB := Lib.hid hfb
  clear hfz hfl hfb
  go_wp2_with fail
  go_loopw [8, 9] (fun s i wr => ∃ k : Nat, k ≤ 4 ∧ 4 + p + k ≤ 8 + n0 ∧ i = .int .i64 k ∧ s = .bool (sameB ys k) ∧ wr.ownsRow (w.heap.size + 1) 5 1 (.slice (some ⟨g, 0, none⟩) (8 + n0) c1) (8 + n0) (nums .u8 (bst fz (4 + p) ys k)) ∧ Below (w.heap.size + 1) w1 wr) (fun _ i _ => 4 - (intOf i).toNat)
  case atStart => exact ⟨0, by omega, by omega, rfl, rfl, by rw [Crc.bst_zero]; exact HO.out, Below.refl _ _⟩
  case round =>
    obtain ⟨k, hk4, hkn, rfl, rfl, hown, hbel⟩ := hrel
    obtain ⟨sb, hsb⟩ : ∃ sb, sameB ys k = sb := ⟨_, rfl⟩
    rw [hsb]
    have HS := Lib.hid hsb
    clear hsb
    by_cases hboth : k < 4 ∧ 4 + p + k < 8 + n0
    · obtain ⟨h4, hn4⟩ := hboth
      · have hlt2 : 4 + p + k < fz.length := by rw [HFL.out]; omega
        have e1 : (nums .u8 (bst fz (4 + p) ys k))[4 + p + k]? = some (.int .u8 (fz.getD (4 + p + k) 0)) := nums_get (Crc.bst_at hlt2)
        have e2 : (nums .u8 ys)[k]? = some (.int .u8 (ys.getD k 0)) := nums_get (by rw [List.getElem?_eq_getElem (by rw [HY4.out]; omega)]; simp [List.getD, HY4.out, h4])
        have bz := Crc.getD_byte HFB.out (4 + p + k)
        have by_ := Crc.getD_byte HYB.out k
        have HX := Lib.hid (u8_xb _ _ bz by_)
        have HSet := Lib.hid (Crc.bst_set (ys := ys) hlt2)
        have HSame := Lib.hid (Crc.sameB_succ (ys := ys) (k := k))
        generalize fz.getD (4 + p + k) 0 = z at e1 bz HX HSet
        generalize ys.getD k 0 = y at e2 by_ HX HSet HSame
        have hc1 : wr.cell? ⟨g, 4 + p + k, none⟩ = some (.int .u8 z) := by rw [hown.cellAt (4 + p + k) (by omega), e1]
        have hf1 : wr.frozen? ⟨g, 4 + p + k, none⟩ = false := hown.frozenAt (4 + p + k)
        have hc2 : wr.cell? ⟨w.heap.size, k, none⟩ = some (.int .u8 y) := by
          obtain ⟨b, off, u, hA, _, hu, hc⟩ := (HB.out.below hbel).at_ h4
          injection hA with hA
          injection hA with hA hA2
          subst hA hA2
          rw [e2] at hu
          injection hu with hu
          subst hu
          simpa using hc
        have hx := HX.out
        generalize xb z y = x at HX HSet hx
        have HOw := Lib.hid hown
        have HBl := Lib.hid hbel
        clear e1 e2 hown hbel
        obtain ⟨z0, z1⟩ := bz
        obtain ⟨y0, y1⟩ := by_
        have hst := HOw.out.stored (4 + p + k) (.int .u8 x)
        rw [nums_set, HSet.out] at hst
        have HO2 := Lib.hid hst.1
        have HB2 : Hid (g ≥ w.heap.size + 1) := hg0
        clear hst
        cases sb
        all_goals
          go_wp2_with fail
          go_region
          go_wp2_with fail
          go_roundw
          case rel => exact ⟨k + 1, by omega, by omega, by go_num, by rw [HSame.out, HS.out]; rfl, HO2.out.drew, (HBl.out.setCell (by have := HB2.out; exact this) _).drew⟩
          case measure => simp [intOf]; omega
    · have hcs : 4 ≤ k ∨ (k < 4 ∧ 8 + n0 ≤ 4 + p + k) := by omega
      have hfin := finds zs ys p k HZ.out HYB.out (by rw [HL.out]; omega) hk4 (by rw [HL.out]; omega)
      rw [HFZ.out, HS.out] at hfin
      have hba : Below w.heap.size w wr := ((Below.refl _ _).alloc (Nat.le_refl _) _).trans ((HB1.out.trans hbel).mono (by omega))
      have hbz : w.heap.size ≤ wr.heap.size := hba.size
      have cg := fget_any (some ⟨g, 0, none⟩) (8 + n0) c1 (bst fz (4 + p) ys k) wr (HT.out.below hba (Nat.le_refl _)) (own_reads hown) (Crc.bst_bytes HFB.out HYB.out) (own_bd hown).1 (by have := (own_bd hown).2; unfold maxLen at this; omega)
      unfold FGet at cg
      have HBA := Lib.hid hba
      clear hown hbel hboth hba
      cases sb
      · have hfin := hfin.2 rfl
        rw [hfin.1, hfin.2.1, hfin.2.2] at cg
        clear hfin
        rcases hcs with h4 | ⟨h4, hn4⟩
        all_goals
          go_wp2_with fail
          refine cg.mono ?_
          rintro e w5 ⟨A5, c5, rfl, _, hb5⟩
          have hb6 := HBA.out.trans (hb5.mono hbz)
          have hs6 := hb6.size
          have ca := awake09 w5 (HT.out.below hb6 (Nat.le_refl _))
          have HB6 := Lib.hid hb6
          clear hb6 hb5
          go_wp2_with fail
          refine ca.mono ?_
          rintro e w' ⟨rfl, hb⟩
          go_wp2
          go_ret
          exact ⟨rfl, HB6.out.trans (hb.mono hs6)⟩
      · have hfin := hfin.1 rfl
        rw [hfin.1, hfin.2] at cg
        generalize gN smZ (bst fz (4 + p) ys k) = gn at cg
        clear hfin
        rcases hcs with h4 | ⟨h4, hn4⟩
        all_goals
          go_wp2_with fail
          refine cg.mono ?_
          rintro e w5 ⟨A5, c5, rfl, hr5, hb5⟩
          have hb6 := HBA.out.trans (hb5.mono hbz)
          have hs6 := hb6.size
          have ca := awake09 w5 (HT.out.below hb6 (Nat.le_refl _))
          have k5 := hr5.conv (P := Tryd.prog) (c := c5) (src := 22) (dst := 9) Tryd.underlying22 Tryd.underlying5 Tryd.underlying9
          have k6 := ((HR.out.below hb6).more hs6).conv (P := Tryd.prog) (c := c0) (src := 22) (dst := 9) Tryd.underlying22 Tryd.underlying5 Tryd.underlying9
          have HB6 := Lib.hid hb6
          clear hb6 hb5 hr5
          go_wp2_with fail
          refine ca.mono ?_
          rintro e w' ⟨rfl, hb⟩
          go_wp2
          go_ret
          exact ⟨rfl, HB6.out.trans (hb.mono hs6)⟩
end Go.Proofs.YtfgkbghagklacaaDoor
