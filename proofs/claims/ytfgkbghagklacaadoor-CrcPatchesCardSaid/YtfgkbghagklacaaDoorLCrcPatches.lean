/-
  The law CrcPatches, walked.
-/
import Derived.Test.YtfgkbghagklacaaDoorWCrcC
import Derived.Test.YtfgkbghagklacaaDoorLCrcSums
import Derived.Outline
import Derived.Test.YtfgkbghagklacaaDoorApp
namespace Go.Proofs.YtfgkbghagklacaaDoor
open Go.RowKit
theorem law_CrcPatches (w : World) (ht : Tab w) (A0 : Option Addr) (n0 c0 : Nat) (xs0 : List (Nm .u8)) (hn0 : n0 ≤ c0) (hc0 : c0 ≤ maxLen) (_hA0 : A0 = none → c0 = 0) (hl0 : LiesSlice w w.heap.size A0 n0 xs0) (x1 : Nm .u32) :
    Calls Tryd.prog 5 #[.slice A0 n0 c0, .int .u32 x1.z] w fun e w' => e = .returned (.bool true) ∧ Below w.heap.size w w' := by
  obtain ⟨c, hc⟩ := nm_wd x1
  rw [hc]
  unfold maxLen at hc0
  have hn : n0 ≤ 9223372036854775807 := by omega
  have hr := hl0.reads
  have hz := zsOf_u8 xs0
  generalize zsOf xs0 = zs at hr hz
  have c2 := refsum_any A0 n0 c0 zs w hr hz hn
  have c5 := awake06 w ht
  have HR := Lib.hid hr
  have HZ := Lib.hid hz
  clear hr hz hl0 hc _hA0
  by_cases hlt : 5000 < n0
  · go_enter Tryd.func5, Tryd.ntmps5
    go_wp2_with fail
    refine c5.mono ?_
    rintro e w' ⟨rfl, hb⟩
    go_wp2
    go_ret
    exact ⟨rfl, hb⟩
  · clear c5
    obtain ⟨s, hs⟩ : ∃ s, Crc.more 0#32 zs = s := ⟨_, rfl⟩
    rw [hs] at c2
    have HS := Lib.hid hs
    have HT := Lib.hid ht
    clear hs ht
    go_enter Tryd.func5, Tryd.ntmps5
    go_wp2_with fail
    refine c2.mono ?_
    rintro e w' ⟨rfl, rfl⟩
    go_wp2_with fail
    refine (patch_any s c _).mono ?_
    rintro e w1 ⟨ys, hy4, hyb, hyw, rfl, rfl⟩
    have HY4 := Lib.hid hy4
    have HYB := Lib.hid hyb
    have HYW := Lib.hid hyw
    clear hy4 hyb hyw
    go_wp2_with (at_builtin; refine wpl_bytes rfl (.tmp 18) (.tmp 19) rfl w.heap.size _ 0 [] rfl ?o1 w.heap.size A0 n0 c0 zs rfl ?r1 ?c1 ?c2 ?_)
    case o1 => exact own_empty _ _ _ _ (by simp) (by omega)
    case r1 => exact (HR.out.alloc (Nat.le_refl _) _).alloc (by simp) _
    case c1 => omega
    case c2 => simp; omega
    intro A1 c1 w1 hown1 hgr1 hb1 hor1
    try simp only [Nat.zero_add, List.nil_append] at hown1
    have hz1 : w.heap.size + 1 < w1.heap.size := by have := hgr1.size; simp at this; omega
    have hr1 : Reads w1 (w.heap.size + 1) 1 (some ⟨w.heap.size, 0, none⟩) 4 (nums .u8 ys) :=
      ((reads_new w (nums .u8 ys) 5 (0, 0) 4 _ (w.heap.size + 1) rfl (by simp [nums, HY4.out]) (by omega)).alloc (by simp) _).grown hgr1 (by simp) (by intro g hg; simp [Value.ownBlock] at hg; omega)
    clear hgr1 hor1
    go_wp2_with (at_builtin; refine wpl_bytes rfl (.tmp 20) (.tmp 21) rfl w.heap.size _ n0 zs rfl hown1 _ _ 4 4 ys rfl hr1 ?c1 ?c2 ?_)
    case c1 => omega
    case c2 => omega
    intro A2 c2 w2 hown2 hgr2 hb2 hor2
    have hlt4 : ∀ z ∈ zs ++ ys, 0 ≤ z ∧ z < 256 := fun z hz => by
      rw [List.mem_append] at hz
      rcases hz with hz | hz
      · exact HZ.out z hz
      · exact HYB.out z hz
    have hfin : (Crc.more 0#32 (zs ++ ys)).toNat = c.toNat := by
      rw [Crc.more_append, HS.out]
      unfold Crc.more
      rw [HYW.out, Crc.run_patch]
      simp
    have cc := refsum_any A2 (n0 + 4) c2 (zs ++ ys) w2 (own_reads hown2) hlt4 (by omega)
    rw [hfin] at cc
    have hba : Below w.heap.size w w2 := (((Below.refl _ _).alloc (Nat.le_refl _) _).alloc (by simp) _).trans (hb1.trans hb2)
    have c5 := awake06 w2 (HT.out.below hba (Nat.le_refl _))
    have hz2 : w.heap.size ≤ w2.heap.size := hba.size
    clear hown1 hown2 hb1 hb2 hgr2 hor2 hr1 hlt4 hfin
    go_wp2_with fail
    refine cc.mono ?_
    rintro e w' ⟨rfl, rfl⟩
    go_wp2_with fail
    refine c5.mono ?_
    rintro e w' ⟨rfl, hb⟩
    go_wp2
    go_ret
    exact ⟨rfl, hba.trans (hb.mono hz2)⟩
end Go.Proofs.YtfgkbghagklacaaDoor
