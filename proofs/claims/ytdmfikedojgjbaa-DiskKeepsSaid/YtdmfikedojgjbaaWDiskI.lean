/-
  A disk's methods by the state's definition; the law's Do.
-/
import Derived.Test.YtdmfikedojgjbaaWDiskH
namespace Go.Proofs.Ytdmfikedojgjbaa
set_option maxRecDepth 100000
open Go.RowKit H
set_option linter.unusedVariables false
namespace Dk
variable {v : Dk} {N : Nat} {C : Nat → Prop} {w w' : World}
theorem At.blkKq {g t : Nat} {cs : Array Value} (h : v.At N C w) (k : Kq v.kb v.d C w w') (hb : Blk w g t cs) (h1 : t ≠ 30) (h2 : t ≠ 58) (h3 : t ≠ 123) : Blk w' g t cs :=
  k.same (t := 0) hb (fun e => by subst e; exact absurd (hb.isT.fun_ h.kT.1) h1) (fun e => by subst e; exact absurd (hb.isT.fun_ h.dT) h2) (fun ht => absurd (hb.isT.fun_ ht) h3)
/-- the disk has come to a state -/
def To (v : Dk) (N : Nat) (C : Nat → Prop) (s : Ds) (w w' : World) : Prop := ∃ v' : Dk, v'.At N C w' ∧ v'.d = v.d ∧ v'.kb = v.kb ∧ v'.abs = s ∧ Kq v.kb v.d C w w'
theorem At.to (h : v.At N C w) : v.To N C v.abs w w := ⟨v, h, rfl, rfl, rfl, Kq.refl _ _ _ _⟩
theorem klen (v : Dk) : v.abs.kept.length = v.kp.length := by simp [Dk.abs, abs_]
theorem plen (v : Dk) : v.abs.pend.length = v.pp.length := by simp [Dk.abs, abs_]
theorem okB {m : Nat} (hok : v.abs.Ok m) (hm : m ≤ 1000000) : v.pp.length ≤ 1000000 ∧ (0 ≤ v.rd ∧ v.rd ≤ 1000000) ∧ (0 ≤ v.wr ∧ v.wr ≤ 1000000) ∧ (0 ≤ v.fl ∧ v.fl ≤ 1000000) := by
  have h := hok.hm
  have e := v.plen
  have e1 : v.abs.rd = v.rd := rfl
  have e2 : v.abs.wr = v.wr := rfl
  have e3 : v.abs.fl = v.fl := rfl
  omega
theorem At.read_any (h : v.At N C w) {m : Nat} (hok : v.abs.Ok m) (hm : m ≤ 1000000) (x : Dd) (hx : x.kind = 0) : Calls Try.prog 64 #[v.ptr, .int .i64 x.n] w fun e w' =>
    ∃ A n c, e = .returned (.tuple #[.slice A n c, .int .i64 (v.abs.do_ x).2.2]) ∧ w'.ownsRow w.heap.size 5 1 (.slice A n c) n (nums .u8 (v.abs.do_ x).2.1) ∧ v.To N C (v.abs.do_ x).1 w w' := by
  obtain ⟨b1, b2, b3, b4⟩ := okB hok hm
  have hkl := v.klen
  by_cases ho : v.off = true
  · have e : v.abs.do_ x = (v.abs, [], 14) := by unfold Ds.do_; rw [if_neg (by omega), if_neg (by omega), if_pos (show v.abs.off = true from ho)]
    have ha : askD v.off v.kp.length x.n = 14 := if_pos ho
    rw [e]
    refine (h.read_no x.n (by rw [ha]; decide)).mono fun e w' ⟨he, hw⟩ => ?_
    subst hw
    rw [ha] at he
    exact ⟨none, 0, 0, he, own_nilN _ _ _ _, h.to⟩
  by_cases hr : x.n < 0 ∨ (v.kp.length : Int) ≤ x.n
  · have e : v.abs.do_ x = (v.abs, [], 2) := by unfold Ds.do_; rw [if_neg (by omega), if_neg (by omega), if_neg (show ¬ v.abs.off = true from ho), if_pos ⟨by omega, by rw [hkl]; exact hr⟩]
    have ha : askD v.off v.kp.length x.n = 2 := by rw [askD, if_neg ho, if_pos hr]
    rw [e]
    refine (h.read_no x.n (by rw [ha]; decide)).mono fun e w' ⟨he, hw⟩ => ?_
    subst hw
    rw [ha] at he
    exact ⟨none, 0, 0, he, own_nilN _ _ _ _, h.to⟩
  · obtain ⟨i, hi⟩ := Int.eq_ofNat_of_zero_le (show 0 ≤ x.n by omega)
    have e : v.abs.do_ x = ({ v.abs with rd := v.abs.rd + 1 }, (v.now i).2, 0) := by
      unfold Ds.do_
      rw [if_neg (by omega), if_neg (by omega), if_neg (show ¬ v.abs.off = true from ho), if_neg (by rw [hkl]; rintro ⟨_, hh⟩; exact hr hh), if_pos hx, Dk.now, abs_now, show x.n.toNat = i by omega]
      rfl
    rw [e, hi]
    refine (h.read_ok i (by omega) (by simpa using ho) b2 b1).mono fun e w' ⟨A, c, he, ho', hv, hk⟩ => ?_
    exact ⟨A, 1024, c, he, ho', _, hv, rfl, rfl, rfl, hk⟩
theorem At.stop_any (h : v.At N C w) (x : Dd) (hx : x.kind = 3) (hn : x.n ≤ 9223372036854775807) : Calls Try.prog 65 #[v.ptr, .int .i64 x.n] w fun e w' =>
    e = .returned (.tuple #[]) ∧ v.To N C (v.abs.do_ x).1 w w' := by
  have e : v.abs.do_ x = ({ v.abs with left := max x.n (-1) }, [], 0) := by unfold Ds.do_; rw [if_pos hx]
  rw [e]
  exact (h.stop_ x.n hn).mono fun e w' ⟨he, hv, hk⟩ => ⟨he, _, hv, rfl, rfl, rfl, hk⟩
theorem At.crash_any (h : v.At N C w) {m : Nat} (hok : v.abs.Ok m) (hm : m ≤ 1000000) (x : Dd) (hx : x.kind = 4) (A : Option Addr) (n c : Nat) (hr : Reads w N 1 A n (x.keep.map Value.bool)) (hn : n ≤ 1000000) : Calls Try.prog 21 #[v.ptr, .slice A n c] w fun e w' =>
    e = .returned (.tuple #[]) ∧ v.To N C (v.abs.do_ x).1 w w' := by
  obtain ⟨b1, b2, b3, b4⟩ := okB hok hm
  have e : v.abs.do_ x = ({ v.abs with kept := keI (Dk.kpF x.keep) v.abs.kept [] v.abs.pend v.abs.pend.length, pend := [], off := false, left := -1 }, [], 0) := by unfold Ds.do_; rw [if_neg (by omega), if_pos hx]
  rw [e]
  refine (h.crash_ A n c x.keep hr b1 hn).mono fun e w' ⟨he, hv, hk⟩ => ⟨he, _, hv, rfl, rfl, ?_, hk⟩
  unfold Dk.abs abs_
  dsimp only
  rw [abs_ke]
  rfl
theorem At.flush_any (h : v.At N C w) {m : Nat} (hok : v.abs.Ok m) (hm : m ≤ 1000000) (x : Dd) (hx : x.kind = 2) : Calls Try.prog 19 #[v.ptr] w fun e w' =>
    e = .returned (.int .i64 (v.abs.do_ x).2.2) ∧ v.To N C (v.abs.do_ x).1 w w' ∧ (v.abs.do_ x).2.1 = [] := by
  obtain ⟨b1, b2, b3, b4⟩ := okB hok hm
  by_cases ho : v.off = true
  · have e : v.abs.do_ x = (v.abs, [], 14) := by unfold Ds.do_; rw [if_neg (by omega), if_neg (by omega), if_pos (show v.abs.off = true from ho)]
    rw [e]
    refine (h.flush_no ho).mono fun e w' ⟨he, hw⟩ => ?_
    subst hw
    exact ⟨he, h.to, rfl⟩
  have ho' : v.off = false := by simpa using ho
  have e0 : v.abs.do_ x = if v.abs.left = 0 then ({ v.abs with off := true }, [], 14) else ({ v.abs with left := dec1 v.abs.left, fl := v.abs.fl + 1, kept := keI (fun _ => true) v.abs.kept [] v.abs.pend v.abs.pend.length, pend := [] }, [], 0) := by
    unfold Ds.do_
    rw [if_neg (by omega), if_neg (by omega), if_neg (show ¬ v.abs.off = true from ho), if_neg (by rintro ⟨h1, _⟩; exact h1 hx), if_neg (by omega), if_neg (by rintro ⟨h1, _⟩; omega), if_neg (show ¬ x.kind = 1 by omega)]
  by_cases hl : v.left = 0
  · rw [e0, if_pos (show v.abs.left = 0 from hl)]
    exact (h.flush_14 ho' hl).mono fun e w' ⟨he, hv, hk⟩ => ⟨he, ⟨_, hv, rfl, rfl, rfl, hk⟩, rfl⟩
  · rw [e0, if_neg (show ¬ v.abs.left = 0 from hl)]
    refine (h.flush_ok ho' hl b4 b1).mono fun e w' ⟨he, hv, hk⟩ => ⟨he, ⟨_, hv, rfl, rfl, ?_, hk⟩, rfl⟩
    unfold Dk.abs abs_
    dsimp only
    rw [abs_ke]
    rfl
theorem At.write_any (h : v.At N C w) {m : Nat} (hok : v.abs.Ok m) (hm : m ≤ 1000000) (x : Dd) (hx : x.kind = 1) {N0 : Nat} (hN : N0 ≤ N) (A : Option Addr) (c : Nat) (hr : x.bytes.length = 1024 → RD N0 w (.slice A 1024 c) x.bytes) : Calls Try.prog 63 #[v.ptr, .int .i64 x.n, .slice A x.bytes.length c] w fun e w' =>
    e = .returned (.int .i64 (v.abs.do_ x).2.2) ∧ v.To N C (v.abs.do_ x).1 w w' ∧ (v.abs.do_ x).2.1 = [] := by
  obtain ⟨b1, b2, b3, b4⟩ := okB hok hm
  have hkl := v.klen
  by_cases ho : v.off = true
  · have e : v.abs.do_ x = (v.abs, [], 14) := by unfold Ds.do_; rw [if_neg (by omega), if_neg (by omega), if_pos (show v.abs.off = true from ho)]
    have ha : askD v.off v.kp.length x.n = 14 := if_pos ho
    rw [e]
    refine (h.write_no x.n A _ c (by rw [ha]; decide)).mono fun e w' ⟨he, hw⟩ => ?_
    subst hw
    rw [ha] at he
    exact ⟨he, h.to, rfl⟩
  have ho' : v.off = false := by simpa using ho
  by_cases hrg : x.n < 0 ∨ (v.kp.length : Int) ≤ x.n
  · have e : v.abs.do_ x = (v.abs, [], 2) := by unfold Ds.do_; rw [if_neg (by omega), if_neg (by omega), if_neg (show ¬ v.abs.off = true from ho), if_pos ⟨by omega, by rw [hkl]; exact hrg⟩]
    have ha : askD v.off v.kp.length x.n = 2 := by rw [askD, if_neg ho, if_pos hrg]
    rw [e]
    refine (h.write_no x.n A _ c (by rw [ha]; decide)).mono fun e w' ⟨he, hw⟩ => ?_
    subst hw
    rw [ha] at he
    exact ⟨he, h.to, rfl⟩
  obtain ⟨i, hi⟩ := Int.eq_ofNat_of_zero_le (show 0 ≤ x.n by omega)
  have ha : askD v.off v.kp.length x.n = 0 := by rw [askD, if_neg ho, if_neg hrg]
  have e0 : v.abs.do_ x = if x.kind = 1 ∧ x.bytes.length ≠ 1024 then (v.abs, [], 6) else if v.abs.left = 0 then ({ v.abs with off := true }, [], 14) else ({ v.abs with left := dec1 v.abs.left, wr := v.abs.wr + 1, pend := v.abs.pend ++ [(x.n.toNat, x.bytes)] }, [], 0) := by
    unfold Ds.do_
    rw [if_neg (by omega), if_neg (by omega), if_neg (show ¬ v.abs.off = true from ho), if_neg (by rw [hkl]; rintro ⟨_, hh⟩; exact hrg hh), if_neg (by omega), if_pos hx]
  by_cases h6 : x.bytes.length = 1024
  · rw [if_neg (by rintro ⟨_, hh⟩; exact hh h6)] at e0
    rw [h6]
    have hR := hr h6
    by_cases hl : v.left = 0
    · rw [e0, if_pos (show v.abs.left = 0 from hl)]
      exact (h.write_14 x.n A c ha hl).mono fun e w' ⟨he, hv, hk⟩ => ⟨he, ⟨_, hv, rfl, rfl, rfl, hk⟩, rfl⟩
    · rw [e0, if_neg (show ¬ v.abs.left = 0 from hl), hi]
      have k1 : ∀ w', Kq v.kb v.d C w w' → Reads w' w'.heap.size 1 A 1024 (nums .u8 x.bytes) := fun w' k => by
        obtain ⟨A', c', e, hR'⟩ := (hR.kq h k hN).slice (Nat.le_trans hN (Nat.le_trans h.nsz k.size))
        injection e with e1 _ e3
        subst e1 e3
        exact hR'
      refine (h.write_ok i (by omega) ho' A c x.bytes (k1 w (Kq.refl _ _ _ _)) k1 hl b3 b1).mono fun e w' ⟨A', c', y, he, hv, hk⟩ => ⟨he, ⟨_, hv, rfl, rfl, ?_, hk⟩, rfl⟩
      unfold Dk.abs abs_
      dsimp only
      rw [List.map_append, Int.toNat_natCast]
      rfl
  · rw [e0, if_pos ⟨hx, h6⟩]
    refine (h.write_6 x.n A _ c ha h6).mono fun e w' ⟨he, hw⟩ => ?_
    subst hw
    exact ⟨he, h.to, rfl⟩
/-- the law's Do -/
theorem At.lawdo (h : v.At N C w) {m : Nat} (hok : v.abs.Ok m) (hm : m ≤ 1000000) {N0 : Nat} (hN : N0 ≤ N) (x : Dm) (hx : x.At N0 w) (hdn : x.dn ≤ 1000000) (hkn : x.kn ≤ 1000000) (hk : 0 ≤ x.kind ∧ x.kind ≤ 4) : Calls Try.prog 18 #[v.ptr, x.v] w fun e w' =>
    ∃ A n c, e = .returned (.tuple #[.slice A n c, .int .i64 (v.abs.do_ x.dd).2.2]) ∧ w'.ownsRow w.heap.size 5 1 (.slice A n c) n (nums .u8 (v.abs.do_ x.dd).2.1) ∧ v.To N C (v.abs.do_ x.dd).1 w w' := by
  have hNs := h.nsz
  refine enter Try.func18 rfl (by kernel_rfl) ?_
  refine J.seq ?_
  refine J.region ?_
  -- box
  refine L.boxA (l := [_, _, _, _, _]) rfl rfl ?_
  intro b1 w1 hb1 hs1 hk1 he1
  have H1 := h.ext he1
  have X1 := hx.low (Below.mono he1 (by omega))
  have toE : ∀ {s : Ds} {w' : World}, v.To N C s w1 w' → v.To N C s w w' := fun ⟨v', q1, q2, q3, q4, q5⟩ => ⟨v', q1, q2, q3, q4, (Kq.of_ext he1).trans q5⟩
  refine L.va rfl (X.assign (by conv => lhs; whnf)) ?_
  refine L.va rfl (X.assign (by conv => lhs; whnf)) ?_
  refine L.nil ?_
  refine J.seq ?_
  refine J.seq ?_
  refine J.region ?_
  refine L.va rfl (X.fieldAddr rfl Try.underlying34 rfl sz_3 (by decide)) ?_
  refine L.va rfl (X.load rfl sc_3 (by first | exact Ld.blk hk1 rfl)) ?_
  refine L.nil ?_
  refine J.block ?_
  refine J.seq ?_
  refine J.region ?_
  refine L.va rfl (X.eql rfl rfl) ?_
  refine L.va rfl (X.assign (by conv => lhs; whnf)) ?_
  refine L.nil ?_
  -- cond
  refine J.dec rfl (fun k0 => ?_) (fun k0 => ?_)
  · refine J.seq ?_
    refine J.region ?_
    refine L.va rfl (X.move (by conv => lhs; whnf)) ?_
    refine L.va rfl (X.fieldAddr rfl Try.underlying34 rfl sz_3 (by decide)) ?_
    refine L.va rfl (X.load rfl sc_3 (by first | exact Ld.blk hk1 rfl)) ?_
    -- callfn (*bushel/disk.Disk).Read
    refine L.call rfl en_64 rfl (H1.read_any hok hm x.dd k0) ?_
    rintro e w2 ⟨A, n, c, rfl, hr2, hT2⟩
    refine ⟨_, rfl, ?_⟩
    refine L.va rfl (X.extract rfl rfl) ?_
    refine L.va rfl (X.extract rfl rfl) ?_
    refine L.va rfl (X.assign (by conv => lhs; whnf)) ?_
    refine L.va rfl (X.assign (by conv => lhs; whnf)) ?_
    refine L.nil ?_
    -- ret
    refine J.ret ?_
    refine inB_ret <|  thn_ret <| ?_
    refine fin2 ?_
    exact ⟨A, n, c, rfl, hr2.mono he1.le, toE hT2⟩
  · refine J.seq ?_
    refine J.region ?_
    refine L.va rfl (X.eql rfl rfl) ?_
    refine L.va rfl (X.assign (by conv => lhs; whnf)) ?_
    refine L.nil ?_
    -- cond
    refine J.dec rfl (fun k1 => ?_) (fun k1 => ?_)
    · refine J.seq ?_
      -- draw
      have hk1' : Blk w1 b1 34 #[.int .i64 x.kind, .int .i64 x.n, .slice x.dA x.dn x.dc, .bool x.odd, .slice x.kA x.kn x.kc] := hk1
      refine J.draw (ℓ := 1000000) (S := (fun w' => Blk w' b1 34 #[.int .i64 x.kind, .int .i64 x.n, .slice x.dA x.dn x.dc, .bool x.odd, .slice x.kA x.kn x.kc])) mixed (fun w2 hSE hS_h => ?_)
      have hS : ((fun w' => Blk w' b1 34 #[.int .i64 x.kind, .int .i64 x.n, .slice x.dA x.dn x.dc, .bool x.odd, .slice x.kA x.kn x.kc])) w2 := hk1'.ext hSE
      -- t20
      -- t21
      refine D.va 0 rfl (by kernel_rfl) (fun _ _ _ h => h) rfl (fun w' hw => X.move (by conv => lhs; whnf)) hS ?_
      refine D.va 1 rfl (by kernel_rfl) (fun _ _ _ h => h) rfl (fun w' hw => X.fieldAddr rfl Try.underlying34 rfl sz_3 (by decide)) hS ?_
      refine D.va 2 rfl (by kernel_rfl) (fun _ _ _ h => h) rfl (fun w' hw => X.load rfl sc_3 (Ld.blk hw rfl)) hS ?_
      refine D.va 3 rfl (by kernel_rfl) (fun _ _ _ h => h) rfl (fun w' hw => X.loadAgg rfl (range_l hw) Try.underlying34 rfl (by kernel_rfl)) hS ?_
      -- callfn bushel/bushelref19.Bytes
      have X2 := X1.low (Below.mono hSE (by have := he1.le; omega))
      refine D.one 4 (by kernel_rfl) rfl ?_
      refine L.call rfl en_24 rfl (X2.bytes_ (by have := he1.le; have := Ext.le hSE; omega) hdn) ?_
      rintro e w3 ⟨A3, c3, rfl, hr3, hD3, he3⟩
      refine ⟨_, rfl, ?_⟩
      have hS1 := hS.ext he3
      refine L.nil ?_
      refine ⟨fun _ => hS1, ?_⟩
      have he3 : Ext w2 w3 := he3
      have H3 := (H1.ext hSE).ext he3
      -- callfn (*bushel/disk.Disk).Write
      refine D.one 5 (by kernel_rfl) rfl ?_
      refine L.call rfl en_63 rfl (H3.write_any hok hm x.dd k1 hN A3 c3 hD3) ?_
      rintro e w4 ⟨rfl, ⟨v', q1, q2, q3, q4, q5⟩, q6⟩
      refine ⟨_, rfl, ?_⟩
      have hS2 := H3.blkKq q5 hS1 (by decide) (by decide) (by decide)
      refine L.nil ?_
      refine ⟨fun _ => hS2, ?_⟩
      refine D.va 6 rfl (by kernel_rfl) (fun _ _ _ h => h) rfl (fun w' hw => X.assign (by conv => lhs; whnf)) hS2 ?_
      refine D.va 7 rfl (by kernel_rfl) (fun _ _ _ h => h) rfl (fun w' hw => X.assign (by conv => lhs; whnf)) hS2 ?_
      refine D.done (by kernel_rfl) ?_
      -- ret
      refine J.ret ?_
      refine inB_ret <|  thn_ret <| ?_
      refine fin2 ?_
      refine ⟨none, 0, 0, rfl, ?_, toE ⟨v', q1, q2, q3, q4, (Kq.of_ext (hSE.trans he3)).trans q5⟩⟩
      rw [q6]
      exact own_nilN _ _ _ _
    · refine J.seq ?_
      refine J.region ?_
      refine L.va rfl (X.eql rfl rfl) ?_
      refine L.va rfl (X.assign (by conv => lhs; whnf)) ?_
      refine L.nil ?_
      -- cond
      refine J.dec rfl (fun k2 => ?_) (fun k2 => ?_)
      · refine J.seq ?_
        refine J.region ?_
        refine L.va rfl (X.move (by conv => lhs; whnf)) ?_
        -- callfn (*bushel/disk.Disk).Flush
        refine L.call rfl en_19 rfl (H1.flush_any hok hm x.dd k2) ?_
        rintro e w2 ⟨rfl, hT2, q6⟩
        refine ⟨_, rfl, ?_⟩
        refine L.va rfl (X.assign (by conv => lhs; whnf)) ?_
        refine L.va rfl (X.assign (by conv => lhs; whnf)) ?_
        refine L.nil ?_
        -- ret
        refine J.ret ?_
        refine inB_ret <|  thn_ret <| ?_
        refine fin2 ?_
        refine ⟨none, 0, 0, rfl, ?_, toE hT2⟩
        rw [q6]
        exact own_nilN _ _ _ _
      · refine J.seq ?_
        refine J.region ?_
        refine L.va rfl (X.eql rfl rfl) ?_
        refine L.va rfl (X.assign (by conv => lhs; whnf)) ?_
        refine L.nil ?_
        -- cond
        refine J.dec rfl (fun k3 => ?_) (fun k3 => ?_)
        · have e : v.abs.do_ x.dd = ({ v.abs with left := max x.n (-1) }, [], 0) := by unfold Ds.do_; rw [if_pos (show x.dd.kind = 3 from k3)]; rfl
          refine J.region ?_
          refine L.va rfl (X.move (by conv => lhs; whnf)) ?_
          refine L.va rfl (X.fieldAddr rfl Try.underlying34 rfl sz_3 (by decide)) ?_
          refine L.va rfl (X.load rfl sc_3 (by first | exact Ld.blk hk1 rfl)) ?_
          -- callfn (*bushel/disk.Disk).Stop
          refine L.call rfl en_65 rfl (H1.stop_any x.dd k3 hx.hn.2) ?_
          rintro e w2 ⟨rfl, hT2⟩
          refine ⟨_, rfl, ?_⟩
          refine L.nil ?_
          refine J.seq ?_
          refine J.region ?_
          refine L.va rfl (X.assign (by conv => lhs; whnf)) ?_
          refine L.va rfl (X.assign (by conv => lhs; whnf)) ?_
          refine L.nil ?_
          -- ret
          refine J.ret ?_
          refine fin2 ?_
          refine ⟨none, 0, 0, ?_, ?_, toE hT2⟩
          · rw [e]; rfl
          · rw [e]; exact own_nilN _ _ _ _
        · have k4 : x.dd.kind = 4 := by show x.kind = 4; omega
          have e : v.abs.do_ x.dd = ({ v.abs with kept := keI (Dk.kpF x.dd.keep) v.abs.kept [] v.abs.pend v.abs.pend.length, pend := [], off := false, left := -1 }, [], 0) := by unfold Ds.do_; rw [if_neg (by omega), if_pos k4]
          refine J.seq ?_
          refine J.region ?_
          refine L.va rfl (X.eql rfl rfl) ?_
          refine L.va rfl (X.assign (by conv => lhs; whnf)) ?_
          refine L.nil ?_
          -- cond
          refine J.decT rfl (by exact k4) ?_
          refine J.region ?_
          refine L.va rfl (X.move (by conv => lhs; whnf)) ?_
          refine L.va rfl (X.fieldAddr rfl Try.underlying34 rfl sz_23 (by decide)) ?_
          refine L.va rfl (X.load rfl sc_23 (by first | exact Ld.blk hk1 rfl)) ?_
          -- callfn (*bushel/disk.Disk).Crash
          refine L.call rfl en_21 rfl (H1.crash_any hok hm x.dd k4 x.kA x.kn x.kc (X1.hk.more hN) hkn) ?_
          rintro e w2 ⟨rfl, hT2⟩
          refine ⟨_, rfl, ?_⟩
          refine L.nil ?_
          refine J.seq ?_
          refine J.region ?_
          refine L.va rfl (X.assign (by conv => lhs; whnf)) ?_
          refine L.va rfl (X.assign (by conv => lhs; whnf)) ?_
          refine L.nil ?_
          -- ret
          refine J.ret ?_
          refine fin2 ?_
          refine ⟨none, 0, 0, ?_, ?_, toE hT2⟩
          · rw [e]; rfl
          · rw [e]; exact own_nilN _ _ _ _
end Dk
end Go.Proofs.Ytdmfikedojgjbaa
