/-
  The disk's laws: awake.
-/
import Derived.Test.YtdmfikedojgjbaaWDiskL
namespace Go.Proofs.Ytdmfikedojgjbaa
set_option maxRecDepth 100000
open Go.RowKit H
set_option linter.unusedVariables false
def zZ : List Int := List.replicate 1024 0
def zX : List Int := zZ.set 0 7
theorem zX_len : zX.length = 1024 := by simp [zX, zZ]
theorem aw1 : Ds.do_ ⟨[zZ], [], false, -1, 0, 0, 0⟩ ⟨1, 0, zX, true, []⟩ = (⟨[zZ], [(0, zX)], false, -1, 0, 1, 0⟩, [], 0) := by
  simp [Ds.do_, Dd.bytes, zX_len, Dk.dec1]
theorem aw2 : Ds.do_ ⟨[zZ], [(0, zX)], false, -1, 0, 1, 0⟩ ⟨4, 0, [], true, []⟩ = (⟨[zZ], [], false, -1, 0, 1, 0⟩, [], 0) := by
  simp [Ds.do_, keI, Dk.kpF]
theorem aw3 : Ds.do_ ⟨[zZ], [], false, -1, 0, 1, 0⟩ ⟨0, 0, [], true, []⟩ = (⟨[zZ], [], false, -1, 1, 1, 0⟩, zZ, 0) := by
  simp [Ds.do_, Ds.now, nowI]
theorem aw4 : Ds.do_ ⟨[zZ], [], false, -1, 1, 1, 0⟩ ⟨3, 1, [], true, []⟩ = (⟨[zZ], [], false, 1, 1, 1, 0⟩, [], 0) := by
  simp [Ds.do_]
  decide
theorem aw5 : Ds.do_ ⟨[zZ], [], false, 1, 1, 1, 0⟩ ⟨1, 0, zX, true, []⟩ = (⟨[zZ], [(0, zX)], false, 0, 1, 2, 0⟩, [], 0) := by
  simp [Ds.do_, Dd.bytes, zX_len, Dk.dec1]
theorem aw6 : Ds.do_ ⟨[zZ], [(0, zX)], false, 0, 1, 2, 0⟩ ⟨2, 0, [], true, []⟩ = (⟨[zZ], [(0, zX)], true, 0, 1, 2, 0⟩, [], 14) := by
  simp [Ds.do_]
theorem awok (p : List (Nat × List Int)) (hp : ∀ x ∈ p, x.1 < 1 ∧ x.2.length = 1024) (hl : p.length ≤ 10) (o : Bool) (l a b c : Int) (h : -1 ≤ l ∧ l ≤ 10 ∧ 0 ≤ a ∧ a ≤ 10 ∧ 0 ≤ b ∧ b ≤ 10 ∧ 0 ≤ c ∧ c ≤ 10) : Ds.Ok ⟨[zZ], p, o, l, a, b, c⟩ 10 :=
  ⟨by simp, by simp [zZ], by simpa using hp, by dsimp only; omega, by dsimp only; omega⟩
theorem awake19 (w : World) : Calls Try.prog 16 #[] w fun e w' => e = .returned (.bool true) ∧ Ext w w' := by
  refine enter Try.func16 rfl (by kernel_rfl) ?_
  refine J.seq ?_
  refine J.region ?_
  refine L.va rfl (X.assign (by conv => lhs; whnf)) ?_
  refine L.nil ?_
  refine J.seq ?_
  refine J.region ?_
  -- callfn bushel/disk.New
  refine L.call rfl en_17 rfl (new_ok 1 (by omega)) ?_
  rintro e w1 ⟨v, rfl, hv, k1, k2, k3, k4, k5, k6, k7, he1⟩
  refine ⟨_, rfl, ?_⟩
  have a0 : v.abs = ⟨[zZ], [], false, -1, 0, 0, 0⟩ := by
    unfold Dk.abs abs_
    rw [show v.kp.map (·.2) = v.dat from rfl, k7, k1, k2, k3, k4, k5, k6]
    rfl
  have g2 : ∀ {w2 : World}, Kq v.kb v.d (· < w.heap.size) w1 w2 → Ext w w2 := fun k => Below.trans he1 (hv.below k)
  refine L.va rfl (X.move (by conv => lhs; whnf)) ?_
  refine L.va rfl (X.extract rfl rfl) ?_
  refine L.va rfl (X.extract rfl rfl) ?_
  refine L.va rfl (X.assign (by conv => lhs; whnf)) ?_
  refine L.va rfl (X.assign (by conv => lhs; whnf)) ?_
  refine L.nil ?_
  refine J.seq ?_
  refine J.seq ?_
  refine J.region ?_
  refine L.va rfl (X.move (by conv => lhs; whnf)) ?_
  refine L.va rfl (X.neq rfl rfl) ?_
  refine L.va rfl (X.move (by conv => lhs; whnf)) ?_
  -- case t15
  refine L.caseNdecF (k := 15) rfl (by rfl) ?_
  refine L.va rfl (X.move (by conv => lhs; whnf)) ?_
  refine L.va rfl (X.eqlPn rfl rfl (by kernel_rfl)) ?_
  refine L.va rfl (X.pickF rfl (by conv => lhs; whnf)) ?_
  refine L.nil ?_
  -- cond
  refine J.iteF rfl ?_
  refine J.skip ?_
  refine J.seq ?_
  refine J.region ?_
  -- makeSlice
  refine L.make (q := 1024) (c := 1024) rfl rfl rfl Try.underlying30 el_5 (by omega) ?_
  intro b2 w2 hb2 hs2 hk2 he2
  rw [made_nums] at hk2
  have ho2 : w2.ownsRow w.heap.size 5 1 (.slice (some ⟨b2, 0, none⟩) 1024 1024) 1024 (nums .u8 zZ) := by
    have := blk_own1 (q := 1024) hk2 (by have := he1.le; omega : w.heap.size ≤ b2) (by decide) (by simp [nums])
    exact this
  refine L.va rfl (X.assign (by conv => lhs; whnf)) ?_
  refine L.nil ?_
  refine J.seq ?_
  refine J.region ?_
  refine L.va rfl (X.move (by conv => lhs; whnf)) ?_
  refine L.va rfl (X.index1n (j := 0) rfl rfl Try.underlying30 sz_5 (by first | exact Option.some_ne_none _ ) (by omega)) ?_
  -- store
  refine L.storeON rfl rfl (by conv => lhs; whnf) sz_5 (ho2) (by omega) ?_
  intro w3 ho3 hg3 hb3 hs3
  have ho3 : w3.ownsRow w.heap.size 5 1 (.slice (some ⟨b2, 0, none⟩) 1024 1024) 1024 (nums .u8 zX) := ho3
  have e13 : Ext w1 w3 := he2.grw hg3 (by intro g hg; have hg : some b2 = some g := hg; injection hg with hg; omega)
  have hv3 := hv.ext e13
  have hD3 : RD w.heap.size w3 (.slice (some ⟨b2, 0, none⟩) 1024 1024) zX := .inl (Dat.of_own ho3)
  have ok0 := awok [] (by simp) (by simp) false (-1) 0 0 0 (by decide)
  refine L.nil ?_
  refine J.seq ?_
  refine J.region ?_
  refine L.va rfl (X.move (by conv => lhs; whnf)) ?_
  refine L.va rfl (X.move (by conv => lhs; whnf)) ?_
  -- callfn (*bushel/disk.Disk).Write
  have c1 := hv3.write_any (by rw [a0]; exact ok0) (by omega) ⟨1, 0, zX, true, []⟩ rfl (Nat.le_refl _) (some ⟨b2, 0, none⟩) 1024 (fun _ => hD3)
  rw [a0, aw1, show (Dd.mk 1 0 zX true []).bytes.length = 1024 from zX_len] at c1
  refine L.call rfl en_63 rfl (c1) ?_
  rintro e w4 ⟨rfl, ⟨v4, p1, p2, p3, p4, p5⟩, _⟩
  refine ⟨_, rfl, ?_⟩
  dsimp only at p4
  have ptr4 : v.ptr = v4.ptr := by unfold Dk.ptr; rw [p2]
  have hD4 := hD3.kq hv3 p5 (Nat.le_refl _)
  refine L.va rfl (X.assign (by conv => lhs; whnf)) ?_
  refine L.nil ?_
  refine J.seq ?_
  refine J.region ?_
  refine L.va rfl (X.move (by conv => lhs; whnf)) ?_
  -- callfn (*bushel/disk.Disk).Crash
  have c2 := p1.crash_any (by rw [p4]; exact awok _ (by simp [zX_len]) (by simp) false (-1) 0 1 0 (by decide)) (by omega) ⟨4, 0, [], true, []⟩ rfl none 0 0 Reads.none_ (by omega)
  rw [← ptr4, p4, aw2] at c2
  refine L.call rfl en_21 rfl (c2) ?_
  rintro e w5 ⟨rfl, ⟨v5, q1, q2, q3, q4, q5⟩⟩
  refine ⟨_, rfl, ?_⟩
  dsimp only at q4
  have ptr5 : v.ptr = v5.ptr := by unfold Dk.ptr; rw [q2, p2]
  have hD5 := hD4.kq p1 q5 (Nat.le_refl _)
  rw [p2, p3] at q5
  refine L.nil ?_
  refine J.seq ?_
  refine J.region ?_
  refine L.va rfl (X.move (by conv => lhs; whnf)) ?_
  -- callfn (*bushel/disk.Disk).Read
  have c3 := q1.read_any (by rw [q4]; exact awok [] (by simp) (by simp) false (-1) 0 1 0 (by decide)) (by omega) ⟨0, 0, [], true, []⟩ rfl
  rw [← ptr5, q4, aw3] at c3
  refine L.call rfl en_64 rfl (c3) ?_
  rintro e w6 ⟨A6, n6, c6, rfl, ho6, ⟨v6, r1, r2, r3, r4, r5⟩⟩
  refine ⟨_, rfl, ?_⟩
  dsimp only at r4 ho6
  have ptr6 : v.ptr = v6.ptr := by unfold Dk.ptr; rw [r2, q2, p2]
  have hn6 : n6 = 1024 := by have := ho6.1; simpa [nums, zZ] using this.symm
  subst hn6
  have hD6 := hD5.kq q1 r5 (Nat.le_refl _)
  have hd6 : Dat w6 (.slice A6 1024 c6) zZ := Dat.of_own ho6
  rw [q2, q3, p2, p3] at r5
  refine L.va rfl (X.move (by conv => lhs; whnf)) ?_
  refine L.va rfl (X.extract rfl rfl) ?_
  refine L.va rfl (X.extract rfl rfl) ?_
  refine L.va rfl (X.assign (by conv => lhs; whnf)) ?_
  refine L.va rfl (X.assign (by conv => lhs; whnf)) ?_
  refine L.nil ?_
  refine J.seq ?_
  refine J.region ?_
  refine L.va rfl (X.move (by conv => lhs; whnf)) ?_
  -- callfn (*bushel/disk.Disk).Stop
  have c4 := r1.stop_any ⟨3, 1, [], true, []⟩ rfl (by decide)
  rw [← ptr6, r4, aw4] at c4
  refine L.call rfl en_65 rfl (c4) ?_
  rintro e w7 ⟨rfl, ⟨v7, s1, s2, s3, s4, s5⟩⟩
  refine ⟨_, rfl, ?_⟩
  dsimp only at s4
  have ptr7 : v.ptr = v7.ptr := by unfold Dk.ptr; rw [s2, r2, q2, p2]
  have hD7 := hD6.kq r1 s5 (Nat.le_refl _)
  have hd7 := hd6.kq r1 s5
  rw [r2, r3, q2, q3, p2, p3] at s5
  refine L.nil ?_
  refine J.seq ?_
  refine J.region ?_
  refine L.va rfl (X.move (by conv => lhs; whnf)) ?_
  refine L.va rfl (X.move (by conv => lhs; whnf)) ?_
  -- callfn (*bushel/disk.Disk).Write
  have c5 := s1.write_any (by rw [s4]; exact awok [] (by simp) (by simp) false 1 1 1 0 (by decide)) (by omega) ⟨1, 0, zX, true, []⟩ rfl (Nat.le_refl _) (some ⟨b2, 0, none⟩) 1024 (fun _ => hD7)
  rw [← ptr7, s4, aw5, show (Dd.mk 1 0 zX true []).bytes.length = 1024 from zX_len] at c5
  refine L.call rfl en_63 rfl (c5) ?_
  rintro e w8 ⟨rfl, ⟨v8, t1, t2, t3, t4, t5⟩, _⟩
  refine ⟨_, rfl, ?_⟩
  dsimp only at t4
  have ptr8 : v.ptr = v8.ptr := by unfold Dk.ptr; rw [t2, s2, r2, q2, p2]
  have hd8 := hd7.kq s1 t5
  rw [s2, s3, r2, r3, q2, q3, p2, p3] at t5
  refine L.va rfl (X.move (by conv => lhs; whnf)) ?_
  -- callfn (*bushel/disk.Disk).Flush
  have c6' := t1.flush_any (by rw [t4]; exact awok _ (by simp [zX_len]) (by simp) false 0 1 2 0 (by decide)) (by omega) ⟨2, 0, [], true, []⟩ rfl
  rw [← ptr8, t4, aw6] at c6'
  refine L.call rfl en_19 rfl (c6') ?_
  rintro e w9 ⟨rfl, ⟨v9, u1, u2, u3, u4, u5⟩, _⟩
  refine ⟨_, rfl, ?_⟩
  dsimp only at u4
  have ptr9 : v.ptr = v9.ptr := by unfold Dk.ptr; rw [u2, t2, s2, r2, q2, p2]
  have hd9 := hd8.kq t1 u5
  rw [t2, t3, s2, s3, r2, r3, q2, q3, p2, p3] at u5
  refine L.va rfl (X.assign (by conv => lhs; whnf)) ?_
  refine L.va rfl (X.assign (by conv => lhs; whnf)) ?_
  refine L.nil ?_
  refine J.seq ?_
  refine J.region ?_
  refine L.va rfl (X.move (by conv => lhs; whnf)) ?_
  refine L.va rfl (X.eql rfl rfl) ?_
  refine L.va rfl (X.move (by conv => lhs; whnf)) ?_
  -- case t41
  refine L.caseDecT (k := 41) rfl (by rfl) ?_
  refine L.va rfl (X.move (by conv => lhs; whnf)) ?_
  refine L.va rfl (X.eql rfl rfl) ?_
  refine L.va rfl (X.pickT rfl (by conv => lhs; whnf)) ?_
  refine L.va rfl (X.move (by conv => lhs; whnf)) ?_
  -- case t45
  refine L.caseDecT (k := 45) rfl (by rfl) ?_
  refine L.va rfl (X.move (by conv => lhs; whnf)) ?_
  refine L.va rfl (X.len rfl Try.underlying30) ?_
  refine L.va rfl (X.eql rfl rfl) ?_
  refine L.va rfl (X.pickT rfl (by conv => lhs; whnf)) ?_
  refine L.va rfl (X.move (by conv => lhs; whnf)) ?_
  -- case t50
  refine L.caseDecT (k := 50) rfl (by rfl) ?_
  obtain ⟨A', c', e', hr9⟩ := hd9.slice
  injection e' with e1 _ e3
  subst e1 e3
  refine L.va rfl (X.move (by conv => lhs; whnf)) ?_
  refine L.va rfl (X.index1n (j := 0) rfl rfl Try.underlying30 sz_5 (by first | exact Option.some_ne_none _ | exact hr9.some_ (by omega)) (by omega)) ?_
  refine L.va rfl (X.load rfl sc_5 (by first | exact Ld.num hr9 (by omega))) ?_
  refine L.va rfl (X.eql rfl rfl) ?_
  refine L.va rfl (X.pickT rfl (by conv => lhs; whnf)) ?_
  refine L.va rfl (X.move (by conv => lhs; whnf)) ?_
  -- case t56
  refine L.caseDecT (k := 56) rfl (by rfl) ?_
  refine L.va rfl (X.move (by conv => lhs; whnf)) ?_
  refine L.va rfl (X.eql rfl rfl) ?_
  refine L.va rfl (X.pickT rfl (by conv => lhs; whnf)) ?_
  refine L.va rfl (X.move (by conv => lhs; whnf)) ?_
  -- case t60
  refine L.caseDecT (k := 60) rfl (by rfl) ?_
  refine L.va rfl (X.move (by conv => lhs; whnf)) ?_
  refine L.va rfl (X.eql rfl rfl) ?_
  refine L.va rfl (X.pickT rfl (by conv => lhs; whnf)) ?_
  refine L.va rfl (X.move (by conv => lhs; whnf)) ?_
  -- case t64
  refine L.caseDecT (k := 64) rfl (by rfl) ?_
  refine L.va rfl (X.move (by conv => lhs; whnf)) ?_
  -- callfn (*bushel/disk.Disk).Off
  have c7 := u1.off_
  rw [← ptr9, show v9.off = true from congrArg Ds.off u4] at c7
  refine L.call rfl en_22 rfl (c7) ?_
  rintro e w10 ⟨rfl, rfl⟩
  refine ⟨_, rfl, ?_⟩
  refine L.va rfl (X.pickT rfl (by conv => lhs; whnf)) ?_
  refine L.va rfl (X.assign (by conv => lhs; whnf)) ?_
  refine L.nil ?_
  -- ret
  refine J.ret ?_
  refine fin1 ?_
  exact ⟨rfl, g2 ((Kq.of_ext e13).trans (p5.trans (q5.trans (r5.trans (s5.trans (t5.trans u5))))))⟩
end Go.Proofs.Ytdmfikedojgjbaa
