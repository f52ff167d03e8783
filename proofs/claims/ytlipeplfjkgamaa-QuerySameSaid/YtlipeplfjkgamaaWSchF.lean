/-
  Why a schema isn't right, in the program.
-/
import Derived.Test.YtlipeplfjkgamaaWSchE
namespace Go.Proofs.Ytlipeplfjkgamaa
set_option maxRecDepth 100000
open Go.RowKit H
set_option linter.unusedVariables false
theorem nmB_sz {l : List ByteArray} (h : nmB l l.length = true) : ∀ s ∈ l, s.size ≤ maxLen := by
  intro s hs
  obtain ⟨i, hi, rfl⟩ := List.mem_iff_getElem.1 hs
  have h1 := nmB_at (mono_b (nmB_s l) (by omega : i + 1 ≤ l.length) h)
  have e : l.getD i be0 = l[i] := by simp [List.getD, hi]
  rw [e] at h1
  have h2 := (of_decide_eq_true h1).2.1
  unfold maxLen
  omega
theorem nmL_length {ds : List (ByteArray × Int)} {s1 s2 : List ByteArray} : (nmL ds s1 s2).length = ds.length + s1.length + s2.length := by simp [nmL]; omega
theorem shl_full {nd : Nat} (h : nd ≤ 6) : IntKind.u32.wrap (1 * 2 ^ min ((nd : Int)).toNat IntKind.u32.bits) = ((2 ^ nd : Nat) : Int) := by
  have hb : IntKind.u32.bits = 32 := rfl
  have hp := pw6 h
  rw [hb, show min ((nd : Int)).toNat 32 = nd by omega, Int.one_mul]
  have e : ((2 : Int) ^ nd) = ((2 ^ nd : Nat) : Int) := by simp
  rw [e, w32 (by omega)]
theorem quo_gt {k d : Int} (hd : 0 < d) : 1099511627776 / d < k ↔ 1099511627776 < k * d := Int.ediv_lt_iff_lt_mul hd
theorem check_any (Ad : Option Addr) (nd cd : Nat) (A1 : Option Addr) (n1 c1 : Nat) (A2 : Option Addr) (n2 c2 : Nat) (Av : Option Addr) (nv cv : Nat) (ds : List (ByteArray × Int)) (s1 s2 : List ByteArray) (zs : List Int) (w : World)
    (hd : Reads w w.heap.size 2 Ad nd (dimsV ds)) (h1 : Reads w w.heap.size 1 A1 n1 (strs s1)) (h2 : Reads w w.heap.size 1 A2 n2 (strs s2)) (hv : Reads w w.heap.size 1 Av nv (nums .u32 zs)) (hzs : ∀ i, 0 ≤ zs.getD i 0 ∧ zs.getD i 0 < 4294967296) (hnv : nv ≤ maxLen) :
    Calls Try.prog 107 #[.agg #[.slice Ad nd cd, .slice A1 n1 c1, .slice A2 n2 c2, .slice Av nv cv]] w fun e w' => e = .returned (.int .i64 (chk nd n1 n2 nv ds s1 s2 zs)) ∧ Ext w w' := by
  have hl : ds.length = nd := by have := hd.1; rw [dimsV_length] at this; omega
  unfold maxLen at hnv
  have t3 := @chk_3 nd n1 n2 nv ds s1 s2 zs
  refine enter Try.func107 rfl (by kernel_rfl) ?_
  refine J.seq ?_
  refine J.region ?_
  -- box
  refine L.boxA (l := [_, _, _, _]) rfl rfl ?_
  intro b1 w1 hb1 hs1 hk1 he1
  refine L.va rfl (X.assign (by conv => lhs; whnf)) ?_
  refine L.nil ?_
  refine J.seq ?_
  refine J.seq ?_
  refine J.region ?_
  refine L.va rfl (X.fieldAddr rfl Try.underlying49 rfl sz_45 (by decide)) ?_
  refine L.va rfl (X.load rfl sc_45 (by first | exact Ld.blk hk1 rfl)) ?_
  refine L.va rfl (X.len rfl Try.underlying45) ?_
  refine L.va rfl (X.eql rfl rfl) ?_
  refine L.va rfl (X.move (by conv => lhs; whnf)) ?_
  -- case t16
  refine L.caseDec (k := 16) rfl (fun a1 => ?_) (fun a1 => ?_)
  · rw [t3 (by omega)]
    refine L.no rfl ?_
    refine L.no rfl ?_
    refine L.no rfl ?_
    refine L.no rfl ?_
    refine L.va rfl (X.pickT rfl (by conv => lhs; whnf)) ?_
    refine L.va rfl (X.move (by conv => lhs; whnf)) ?_
    refine L.no rfl ?_
    refine L.no rfl ?_
    refine L.no rfl ?_
    refine L.no rfl ?_
    refine L.va rfl (X.pickT rfl (by conv => lhs; whnf)) ?_
    refine L.va rfl (X.move (by conv => lhs; whnf)) ?_
    refine L.no rfl ?_
    refine L.no rfl ?_
    refine L.no rfl ?_
    refine L.no rfl ?_
    refine L.va rfl (X.pickT rfl (by conv => lhs; whnf)) ?_
    refine L.va rfl (X.move (by conv => lhs; whnf)) ?_
    refine L.no rfl ?_
    refine L.no rfl ?_
    refine L.no rfl ?_
    refine L.no rfl ?_
    refine L.va rfl (X.pickT rfl (by conv => lhs; whnf)) ?_
    refine L.nil ?_
    -- cond
    refine J.iteT rfl ?_
    refine J.seq ?_
    refine J.region ?_
    refine L.va rfl (X.assign (by conv => lhs; whnf)) ?_
    refine L.nil ?_
    -- ret
    refine J.ret ?_
    refine thn_ret <| ?_
    refine fin1 ?_
    exact ⟨rfl, he1⟩
  · refine L.va rfl (X.fieldAddr rfl Try.underlying49 rfl sz_45 (by decide)) ?_
    refine L.va rfl (X.load rfl sc_45 (by first | exact Ld.blk hk1 rfl)) ?_
    refine L.va rfl (X.len rfl Try.underlying45) ?_
    refine L.va rfl (X.gtr rfl rfl) ?_
    refine L.va rfl (X.pickF rfl (by conv => lhs; whnf)) ?_
    refine L.va rfl (X.move (by conv => lhs; whnf)) ?_
    -- case t22
    refine L.caseDec (k := 22) rfl (fun a2 => ?_) (fun a2 => ?_)
    · rw [t3 (by omega)]
      refine L.no rfl ?_
      refine L.no rfl ?_
      refine L.no rfl ?_
      refine L.no rfl ?_
      refine L.va rfl (X.pickT rfl (by conv => lhs; whnf)) ?_
      refine L.va rfl (X.move (by conv => lhs; whnf)) ?_
      refine L.no rfl ?_
      refine L.no rfl ?_
      refine L.no rfl ?_
      refine L.no rfl ?_
      refine L.va rfl (X.pickT rfl (by conv => lhs; whnf)) ?_
      refine L.va rfl (X.move (by conv => lhs; whnf)) ?_
      refine L.no rfl ?_
      refine L.no rfl ?_
      refine L.no rfl ?_
      refine L.no rfl ?_
      refine L.va rfl (X.pickT rfl (by conv => lhs; whnf)) ?_
      refine L.nil ?_
      -- cond
      refine J.iteT rfl ?_
      refine J.seq ?_
      refine J.region ?_
      refine L.va rfl (X.assign (by conv => lhs; whnf)) ?_
      refine L.nil ?_
      -- ret
      refine J.ret ?_
      refine thn_ret <| ?_
      refine fin1 ?_
      exact ⟨rfl, he1⟩
    · refine L.va rfl (X.fieldAddr rfl Try.underlying49 rfl sz_46 (by decide)) ?_
      refine L.va rfl (X.load rfl sc_46 (by first | exact Ld.blk hk1 rfl)) ?_
      refine L.va rfl (X.len rfl Try.underlying46) ?_
      refine L.va rfl (X.gtr rfl rfl) ?_
      refine L.va rfl (X.pickF rfl (by conv => lhs; whnf)) ?_
      refine L.va rfl (X.move (by conv => lhs; whnf)) ?_
      -- case t28
      refine L.caseDec (k := 28) rfl (fun a3 => ?_) (fun a3 => ?_)
      · rw [t3 (by omega)]
        refine L.no rfl ?_
        refine L.no rfl ?_
        refine L.no rfl ?_
        refine L.no rfl ?_
        refine L.va rfl (X.pickT rfl (by conv => lhs; whnf)) ?_
        refine L.va rfl (X.move (by conv => lhs; whnf)) ?_
        refine L.no rfl ?_
        refine L.no rfl ?_
        refine L.no rfl ?_
        refine L.no rfl ?_
        refine L.va rfl (X.pickT rfl (by conv => lhs; whnf)) ?_
        refine L.nil ?_
        -- cond
        refine J.iteT rfl ?_
        refine J.seq ?_
        refine J.region ?_
        refine L.va rfl (X.assign (by conv => lhs; whnf)) ?_
        refine L.nil ?_
        -- ret
        refine J.ret ?_
        refine thn_ret <| ?_
        refine fin1 ?_
        exact ⟨rfl, he1⟩
      · refine L.va rfl (X.fieldAddr rfl Try.underlying49 rfl sz_46 (by decide)) ?_
        refine L.va rfl (X.load rfl sc_46 (by first | exact Ld.blk hk1 rfl)) ?_
        refine L.va rfl (X.len rfl Try.underlying46) ?_
        refine L.va rfl (X.gtr rfl rfl) ?_
        refine L.va rfl (X.pickF rfl (by conv => lhs; whnf)) ?_
        refine L.va rfl (X.move (by conv => lhs; whnf)) ?_
        -- case t34
        refine L.caseDec (k := 34) rfl (fun a4 => ?_) (fun a4 => ?_)
        · rw [t3 (by omega)]
          refine L.no rfl ?_
          refine L.no rfl ?_
          refine L.no rfl ?_
          refine L.no rfl ?_
          refine L.va rfl (X.pickT rfl (by conv => lhs; whnf)) ?_
          refine L.nil ?_
          -- cond
          refine J.iteT rfl ?_
          refine J.seq ?_
          refine J.region ?_
          refine L.va rfl (X.assign (by conv => lhs; whnf)) ?_
          refine L.nil ?_
          -- ret
          refine J.ret ?_
          refine thn_ret <| ?_
          refine fin1 ?_
          exact ⟨rfl, he1⟩
        · refine L.va rfl (X.fieldAddr rfl Try.underlying49 rfl sz_47 (by decide)) ?_
          refine L.va rfl (X.load rfl sc_47 (by first | exact Ld.blk hk1 rfl)) ?_
          refine L.va rfl (X.len rfl Try.underlying47) ?_
          refine L.va rfl (X.gtr rfl rfl) ?_
          refine L.va rfl (X.pickF rfl (by conv => lhs; whnf)) ?_
          refine L.nil ?_
          -- cond
          refine J.dec rfl (fun a5 => ?_) (fun a5 => ?_)
          · rw [t3 (by omega)]
            refine J.seq ?_
            refine J.region ?_
            refine L.va rfl (X.assign (by conv => lhs; whnf)) ?_
            refine L.nil ?_
            -- ret
            refine J.ret ?_
            refine thn_ret <| ?_
            refine fin1 ?_
            exact ⟨rfl, he1⟩
          · have hlen : 1 ≤ nd ∧ nd ≤ 6 ∧ n1 ≤ 3 ∧ n2 ≤ 2 ∧ nv ≤ 15 := by omega
            have t8 := @chk_8 nd n1 n2 nv ds s1 s2 zs hlen
            have t9 := @chk_9 nd n1 n2 nv ds s1 s2 zs hlen
            have t2 := @chk_2 nd n1 n2 nv ds s1 s2 zs hlen
            have t6 := @chk_6 nd n1 n2 nv ds s1 s2 zs hlen
            have t0 := @chk_0 nd n1 n2 nv ds s1 s2 zs hlen
            refine J.skip ?_
            refine J.seq ?_
            refine J.region ?_
            refine L.va rfl ((by first | exact X.loadAgg rfl (range_l hk1) Try.underlying49 rfl (by kernel_rfl) | exact X.loadAgg rfl (range_blk hk1) Try.underlying49 rfl (by kernel_rfl))) ?_
            -- callfn bushel/schema.all
            refine L.call rfl en_180 rfl (sall_any Ad nd cd A1 n1 c1 A2 n2 c2 Av nv cv ds s1 s2 _ ((hd.ext he1).here (by decide)) ((h1.ext he1).here (by decide)) ((h2.ext he1).here (by decide)) (by omega) (by omega) (by omega)) ?_
            rintro e w2 ⟨A, c, rfl, ho, he2⟩
            refine ⟨_, rfl, ?_⟩
            have he2 : Ext w1 w2 := he2
            have hk2 := hk1.ext he2
            refine L.va rfl (X.assign (by conv => lhs; whnf)) ?_
            refine L.nil ?_
            refine J.seq ?_
            refine J.seq ?_
            refine J.region ?_
            refine L.va rfl (X.move (by conv => lhs; whnf)) ?_
            refine L.va rfl (X.len rfl Try.underlying46) ?_
            refine L.va rfl (X.move (by conv => lhs; whnf)) ?_
            refine L.nil ?_
            refine J.block ?_
            -- loop
            -- loop
            refine J.loop (X := Nat) [2, 5, 44, 45, 46, 47, 48, 49, 50, 51] (fun i => [(44, .int .i64 (i : Int))]) (fun i w' => i ≤ nd + n1 + n2 ∧ nmB (nmL ds s1 s2) i = true ∧ Ext w2 w') (fun i => nd + n1 + n2 - i) (0) (At1 (by first | rfl | exact at_int rfl (by omega) | exact at_slice rfl (by omega) | exact at_int rfl (by simp))) ?_ ?_
            · exact ⟨by omega, rfl, Ext.refl _⟩
            · rintro i g w3 ⟨hi, hB, he3⟩
              have ho3 := ho.ext he3
              have hk3 := (hk1.ext he2).ext he3
              refine J.seq ?_
              refine J.region ?_
              refine L.va rfl (X.lss rfl rfl) ?_
              refine L.nil ?_
              refine J.seq ?_
              -- cond
              refine J.dec rfl (fun hlt => ?_) (fun hlt => ?_)
              · refine J.skip ?_
                refine J.seq ?_
                refine J.block ?_
                refine J.seq ?_
                refine J.region ?_
                refine L.va rfl ((by first | exact X.index1n rfl rfl Try.underlying46 sz_9 (by first | exact Option.some_ne_none _ | exact own_ne ho3 (by omega)) (by omega) | exact X.index1 rfl rfl Try.underlying46 sz_9 (by first | exact Option.some_ne_none _ | exact own_ne ho3 (by omega)) (by omega))) ?_
                refine L.va rfl (X.load rfl sc_9 (by first | exact Ld.ostr ho3 (by omega) | exact Ld.blk hk3 rfl)) ?_
                refine L.va rfl (X.assign (by conv => lhs; whnf)) ?_
                refine L.nil ?_
                refine J.seq ?_
                refine J.region ?_
                refine L.va rfl (X.move (by conv => lhs; whnf)) ?_
                -- callfn bushel/names.Is
                refine L.call rfl en_181 rfl (is_any _ _) ?_
                rintro e w4 ⟨rfl, he4⟩
                refine ⟨_, rfl, ?_⟩
                have he4 : Ext w3 w4 := he4
                cases hs : isS ((nmL ds s1 s2).getD i be0)
                · have hE := mono_f (nmB_s (nmL ds s1 s2)) (by omega : i + 1 ≤ nd + n1 + n2) (nmB_no hs)
                  rw [t8 hE]
                  refine L.va rfl (X.not rfl) ?_
                  refine L.nil ?_
                  -- cond
                  refine J.iteT rfl ?_
                  refine J.seq ?_
                  refine J.region ?_
                  refine L.va rfl (X.assign (by conv => lhs; whnf)) ?_
                  refine L.nil ?_
                  -- ret
                  refine J.ret ?_
                  refine inB_ret <|  thn_ret <|  thn_ret <|  inB_ret <|  thn_ret <| ?_
                  refine fin1 ?_
                  exact ⟨rfl, ((he1.trans he2).trans he3).trans he4⟩
                · refine L.va rfl (X.not rfl) ?_
                  refine L.nil ?_
                  -- cond
                  refine J.iteF rfl ?_
                  refine J.skip ?_
                  refine J.region ?_
                  refine L.va rfl (X.add rfl rfl (by omega)) ?_
                  refine L.va rfl (X.move (by conv => lhs; whnf)) ?_
                  refine L.nil ?_
                  -- loopend
                  refine ⟨i + 1, At1 (by first | rfl | exact at_int rfl (by omega) | exact at_slice rfl (by omega) | exact at_int rfl (by simp)), (by (iterate 9 refine Agr.lk rfl ?_); exact Agr.lk rfl (Agr.hav rfl Agr.rfl')), ?_⟩
                  exact ⟨⟨by omega, nmB_mk hB hs, he3.trans he4⟩, by omega⟩
              · obtain rfl : i = nd + n1 + n2 := by omega
                refine J.exit ?_
                refine J.seq ?_
                refine J.seq ?_
                refine J.region ?_
                refine L.va rfl (X.move (by conv => lhs; whnf)) ?_
                -- callfn bushel/names.Twice
                have hll : (nmL ds s1 s2).length = nd + n1 + n2 := by have := (own_reads ho3).1; simpa [strs] using this
                have hBl := hB
                rw [← hll] at hBl
                refine L.call rfl en_182 rfl (twice_any _ _ _ _ _ ((own_reads ho3).here (by decide)) (by have := own_bd ho; omega) (nmB_sz hBl)) ?_
                rintro e w4 ⟨rfl, he4⟩
                refine ⟨_, rfl, ?_⟩
                have he4 : Ext w3 w4 := he4
                have he14 := (he2.trans he3).trans he4
                have hk4 := hk1.ext he14
                have hd4 := (hd.ext he1).ext he14
                have hv4 := (hv.ext he1).ext he14
                have he04 := he1.trans he14
                refine L.va rfl (X.geq rfl rfl) ?_
                refine L.nil ?_
                -- cond
                refine J.dec rfl (fun h9 => ?_) (fun h9 => ?_)
                · rw [t9 hB h9]
                  refine J.seq ?_
                  refine J.region ?_
                  refine L.va rfl (X.assign (by conv => lhs; whnf)) ?_
                  refine L.nil ?_
                  -- ret
                  refine J.ret ?_
                  refine thn_ret <| ?_
                  refine fin1 ?_
                  exact ⟨rfl, he04⟩
                · refine J.skip ?_
                  refine J.seq ?_
                  refine J.region ?_
                  refine L.va rfl (X.assign (by conv => lhs; whnf)) ?_
                  refine L.nil ?_
                  refine J.seq ?_
                  refine J.seq ?_
                  refine J.region ?_
                  refine L.va rfl (X.fieldAddr rfl Try.underlying49 rfl sz_45 (by decide)) ?_
                  refine L.va rfl (X.load rfl sc_45 (by first | exact Ld.blk hk4 rfl | exact Ld.num hv4 (by omega) | exact Ld.rd hd4 (by omega))) ?_
                  refine L.va rfl (X.len rfl Try.underlying45) ?_
                  refine L.va rfl (X.move (by conv => lhs; whnf)) ?_
                  refine L.nil ?_
                  refine J.block ?_
                  -- loop
                  -- loop
                  refine J.loop (X := Nat × Int) [2, 6, 8, 58, 59, 60, 61, 62, 63, 64, 65, 66, 67, 68, 69, 70, 71, 72, 73, 74, 75, 76, 77, 78, 79, 80, 81] (fun x => [(58, .int .i64 (x.1 : Int)), (6, .int .i64 x.2)]) (fun x w' => Ext w4 w' ∧ x.1 ≤ nd ∧ x.2 = kyA ds x.1 ∧ szB ds x.1 = true) (fun x => nd - x.1) ((0, 1)) (At2 (by first | rfl | exact at_int rfl (by omega) | exact at_slice rfl (by omega) | exact at_int rfl (by simp)) (by first | rfl | exact at_int rfl (by omega) | exact at_slice rfl (by omega) | exact at_int rfl (by simp))) ?_ ?_
                  · exact ⟨Ext.refl _, by dsimp only; omega, rfl, rfl⟩
                  · rintro ⟨i, z⟩ g w5 ⟨he5, hi, hz, hS⟩
                    dsimp only at hi hz hS
                    have q1 : ((i, z) : Nat × Int).1 = i := rfl
                    have q2 : ((i, z) : Nat × Int).2 = z := rfl
                    have hzb := kyA_bd hS
                    rw [← hz] at hzb
                    have hk5 := hk4.ext he5
                    have hd5 := hd4.ext he5
                    have hv5 := hv4.ext he5
                    have he05 := he04.trans he5
                    refine J.seq ?_
                    refine J.region ?_
                    refine L.va rfl (X.lss rfl rfl) ?_
                    refine L.nil ?_
                    refine J.seq ?_
                    -- cond
                    refine J.dec rfl (fun hlt2 => ?_) (fun hlt2 => ?_)
                    · have hil : i < nd := by dsimp only at hlt2; omega
                      have hnx := @ky_next ds i hS
                      have hno := @szB_no ds i
                      have hmf := fun h => t2 hB h9 (mono_f (szB_s ds) (by omega : i + 1 ≤ nd) h)
                      have hkn : kyA ds (i + 1) = z * (ds.getD i d0).2 := by rw [hz]; rfl
                      have hrow := dims_row (l := ds) (i := i) (by omega)
                      generalize hdv : (ds.getD i d0).2 = dv at *
                      -- t61
                      refine J.skip ?_
                      refine J.seq ?_
                      refine J.block ?_
                      refine J.seq ?_
                      refine J.region ?_
                      refine L.va rfl ((by first | exact X.indexAddrn rfl rfl Try.underlying45 sz_128 (by first | exact Option.some_ne_none _ | exact hv5.some_ (by omega) | exact hd5.some_ (by omega)) (by omega) | exact X.indexAddr rfl rfl Try.underlying45 sz_128 (by first | exact Option.some_ne_none _ | exact hv5.some_ (by omega) | exact hd5.some_ (by omega)) (by omega))) ?_
                      refine L.va rfl (X.loadRow (cs := [.string (ds.getD i d0).1, .int .i64 dv]) rfl hd5 hrow (Nat.zero_lt_succ _) Try.underlying128 rfl (by kernel_rfl)) ?_
                      -- alloc
                      refine L.alloc rfl zr_128 ?_
                      intro b6 w6 hb6 hs6 hk6 he6
                      -- store
                      refine L.storeAgg (vs := [_, _]) rfl rfl rfl rfl sz_128 (hk6) rfl ?_
                      intro w7 hk7 hg7 hs7
                      have hz5 := he05.le
                      have he57 : Ext w5 w7 := he6.grw hg7 (by intro g hg; injection hg with hg; omega)
                      have he07 := he05.trans he57
                      have hk57 := hk5.ext he57
                      refine L.nil ?_
                      refine J.seq ?_
                      refine J.seq ?_
                      refine J.region ?_
                      refine L.va rfl (X.fieldAddr rfl Try.underlying128 rfl sz_3 (by decide)) ?_
                      refine L.va rfl (X.load rfl sc_3 (by first | exact Ld.blk hk7 rfl)) ?_
                      refine L.va rfl (X.lss rfl rfl) ?_
                      refine L.va rfl (X.move (by conv => lhs; whnf)) ?_
                      -- case t65
                      refine L.caseDec (k := 65) rfl (fun b1 => ?_) (fun b1 => ?_)
                      · rw [hmf (hno (by omega))]
                        refine L.no rfl ?_
                        refine L.no rfl ?_
                        refine L.no rfl ?_
                        refine L.va rfl (X.pickT rfl (by conv => lhs; whnf)) ?_
                        refine L.va rfl (X.move (by conv => lhs; whnf)) ?_
                        refine L.no rfl ?_
                        refine L.no rfl ?_
                        refine L.no rfl ?_
                        refine L.no rfl ?_
                        refine L.no rfl ?_
                        refine L.va rfl (X.pickT rfl (by conv => lhs; whnf)) ?_
                        refine L.nil ?_
                        -- cond
                        refine J.iteT rfl ?_
                        refine J.seq ?_
                        refine J.region ?_
                        refine L.va rfl (X.assign (by conv => lhs; whnf)) ?_
                        refine L.nil ?_
                        -- ret
                        refine J.ret ?_
                        refine thn_ret <|  inB_ret <|  thn_ret <|  thn_ret <|  inB_ret <|  thn_ret <| ?_
                        refine fin1 ?_
                        exact ⟨rfl, he07⟩
                      · refine L.va rfl (X.fieldAddr rfl Try.underlying128 rfl sz_3 (by decide)) ?_
                        refine L.va rfl (X.load rfl sc_3 (by first | exact Ld.blk hk7 rfl)) ?_
                        refine L.va rfl (X.gtr rfl rfl) ?_
                        refine L.va rfl (X.pickF rfl (by conv => lhs; whnf)) ?_
                        refine L.va rfl (X.move (by conv => lhs; whnf)) ?_
                        -- case t70
                        refine L.caseDec (k := 70) rfl (fun b2 => ?_) (fun b2 => ?_)
                        · rw [hmf (hno (by omega))]
                          refine L.no rfl ?_
                          refine L.no rfl ?_
                          refine L.no rfl ?_
                          refine L.no rfl ?_
                          refine L.no rfl ?_
                          refine L.va rfl (X.pickT rfl (by conv => lhs; whnf)) ?_
                          refine L.nil ?_
                          -- cond
                          refine J.iteT rfl ?_
                          refine J.seq ?_
                          refine J.region ?_
                          refine L.va rfl (X.assign (by conv => lhs; whnf)) ?_
                          refine L.nil ?_
                          -- ret
                          refine J.ret ?_
                          refine thn_ret <|  inB_ret <|  thn_ret <|  thn_ret <|  inB_ret <|  thn_ret <| ?_
                          refine fin1 ?_
                          exact ⟨rfl, he07⟩
                        · have hnx := hnx (by omega) (by omega)
                          rw [hkn] at hnx
                          have hnx' : 1 ≤ ((i, z) : Nat × Int).2 * dv ∧ ((i, z) : Nat × Int).2 * dv ≤ 1099511627776 * 4096 := hnx
                          have hq3 : ((i, z) : Nat × Int).2 * dv = z * dv := rfl
                          have hqg := @quo_gt z dv (by omega)
                          refine L.va rfl (X.move (by conv => lhs; whnf)) ?_
                          refine L.va rfl (X.fieldAddr rfl Try.underlying128 rfl sz_3 (by decide)) ?_
                          refine L.va rfl (X.load rfl sc_3 (by first | exact Ld.blk hk7 rfl)) ?_
                          refine L.va rfl (X.quo rfl rfl (by omega)) ?_
                          refine L.va rfl (X.gtr rfl rfl) ?_
                          refine L.va rfl (X.pickF rfl (by conv => lhs; whnf)) ?_
                          refine L.nil ?_
                          -- cond
                          refine J.dec rfl (fun b3 => ?_) (fun b3 => ?_)
                          · have b3' : 1099511627776 / dv < z := b3
                            rw [hmf (hno (by omega))]
                            refine J.seq ?_
                            refine J.region ?_
                            refine L.va rfl (X.assign (by conv => lhs; whnf)) ?_
                            refine L.nil ?_
                            -- ret
                            refine J.ret ?_
                            refine thn_ret <|  inB_ret <|  thn_ret <|  thn_ret <|  inB_ret <|  thn_ret <| ?_
                            refine fin1 ?_
                            exact ⟨rfl, he07⟩
                          · have b3' : ¬ 1099511627776 / dv < z := b3
                            refine J.skip ?_
                            refine J.region ?_
                            refine L.va rfl (X.move (by conv => lhs; whnf)) ?_
                            refine L.va rfl (X.fieldAddr rfl Try.underlying128 rfl sz_3 (by decide)) ?_
                            refine L.va rfl (X.load rfl sc_3 (by first | exact Ld.blk hk7 rfl)) ?_
                            refine L.va rfl (X.mul rfl rfl (by omega)) ?_
                            refine L.va rfl (X.assign (by conv => lhs; whnf)) ?_
                            refine L.nil ?_
                            refine J.region ?_
                            refine L.va rfl (X.add rfl rfl (by omega)) ?_
                            refine L.va rfl (X.move (by conv => lhs; whnf)) ?_
                            refine L.nil ?_
                            -- loopend
                            refine ⟨(i + 1, z * dv), At2 (by first | rfl | exact at_int rfl (by omega) | exact at_slice rfl (by omega) | exact at_int rfl (by simp)) (by first | rfl | exact at_int rfl (by omega) | exact at_slice rfl (by omega) | exact at_int rfl (by simp)), (by (iterate 28 refine Agr.lk rfl ?_); exact Agr.lk rfl (Agr.hav rfl Agr.rfl')), ?_⟩
                            exact ⟨⟨he5.trans he57, by dsimp only; omega, hkn.symm, szB_mk hS (by rw [hdv]; omega)⟩, by dsimp only; omega⟩
                    · obtain rfl : i = nd := by dsimp only at hlt2; omega
                      have hpw := pw6 hlen.2.1
                      have hsl := shl_full hlen.2.1
                      generalize hF : ((2 ^ i - 1 : Nat) : Int) = F at *
                      have hsub : IntKind.u32.wrap (((2 ^ i : Nat) : Int) - 1) = F := by rw [w32 (by omega)]; omega
                      refine J.exit ?_
                      refine J.seq ?_
                      refine J.region ?_
                      refine L.va rfl (X.fieldAddr rfl Try.underlying49 rfl sz_45 (by decide)) ?_
                      refine L.va rfl (X.load rfl sc_45 (by first | exact Ld.blk hk5 rfl | exact Ld.num hv5 (by omega) | exact Ld.rd hd5 (by omega))) ?_
                      refine L.va rfl (X.len rfl Try.underlying45) ?_
                      refine L.va rfl (X.shl rfl rfl (by omega)) ?_
                      refine L.va rfl (X.subw rfl rfl) ?_
                      refine L.va rfl (X.assign (by conv => lhs; whnf)) ?_
                      refine L.nil ?_
                      refine J.seq ?_
                      refine J.seq ?_
                      refine J.region ?_
                      refine L.va rfl (X.fieldAddr rfl Try.underlying49 rfl sz_47 (by decide)) ?_
                      refine L.va rfl (X.load rfl sc_47 (by first | exact Ld.blk hk5 rfl | exact Ld.num hv5 (by omega) | exact Ld.rd hd5 (by omega))) ?_
                      refine L.va rfl (X.len rfl Try.underlying47) ?_
                      refine L.va rfl (X.move (by conv => lhs; whnf)) ?_
                      refine L.nil ?_
                      refine J.block ?_
                      -- loop
                      -- loop
                      rw [hsl, hsub]
                      refine J.loop (X := Nat) [2, 10, 11, 90, 91, 92, 93, 94, 95, 96, 97, 98, 99, 100, 101, 102, 103, 104, 105, 106, 107, 108, 109, 110, 111, 112] (fun i => [(90, .int .i64 (i : Int))]) (fun i w' => w' = w5 ∧ i ≤ nv ∧ viB F zs i = true) (fun i => nv - i) (0) (At1 (by first | rfl | exact at_int rfl (by omega) | exact at_slice rfl (by omega) | exact at_int rfl (by simp))) ?_ ?_
                      · exact ⟨rfl, by omega, rfl⟩
                      · rintro j g w6 ⟨rfl, hj, hV⟩
                        refine J.seq ?_
                        refine J.region ?_
                        refine L.va rfl (X.lss rfl rfl) ?_
                        refine L.nil ?_
                        refine J.seq ?_
                        -- cond
                        refine J.dec rfl (fun hlt3 => ?_) (fun hlt3 => ?_)
                        · have hno := @viB_no F zs j
                          have hmf := fun h => t6 hB h9 hS (mono_f (viB_s F zs) (by omega : j + 1 ≤ nv) h)
                          have hzj := hzs j
                          have hzj' := hzs (j - 1)
                          have hjp : zs.getD ((j : Int) - 1).toNat 0 = zs.getD (j - 1) 0 := by rw [show ((j : Int) - 1).toNat = j - 1 by omega]
                          refine J.skip ?_
                          refine J.seq ?_
                          refine J.block ?_
                          refine J.seq ?_
                          refine J.region ?_
                          refine L.va rfl (X.move (by conv => lhs; whnf)) ?_
                          refine L.va rfl ((by first | exact X.index1n rfl rfl Try.underlying47 sz_50 (by first | exact Option.some_ne_none _ | exact hv5.some_ (by omega) | exact hd5.some_ (by omega)) (by omega) | exact X.index1 rfl rfl Try.underlying47 sz_50 (by first | exact Option.some_ne_none _ | exact hv5.some_ (by omega) | exact hd5.some_ (by omega)) (by omega))) ?_
                          refine L.va rfl (X.load rfl sc_50 (by first | exact Ld.blk hk5 rfl | exact Ld.num hv5 (by omega) | exact Ld.rd hd5 (by omega))) ?_
                          refine L.va rfl (X.assign (by conv => lhs; whnf)) ?_
                          refine L.va rfl (X.assign (by conv => lhs; whnf)) ?_
                          refine L.nil ?_
                          refine J.seq ?_
                          refine J.region ?_
                          refine L.va rfl (X.move (by conv => lhs; whnf)) ?_
                          refine L.va rfl (X.move (by conv => lhs; whnf)) ?_
                          refine L.va rfl (X.geq rfl rfl) ?_
                          refine L.va rfl (X.move (by conv => lhs; whnf)) ?_
                          -- case t98
                          refine L.caseDec (k := 98) rfl (fun g1 => ?_) (fun g1 => ?_)
                          · rw [hmf (hno (by omega))]
                            refine L.no rfl ?_
                            refine L.no rfl ?_
                            refine L.no rfl ?_
                            refine L.no rfl ?_
                            refine L.no rfl ?_
                            refine L.no rfl ?_
                            refine L.no rfl ?_
                            refine L.no rfl ?_
                            refine L.no rfl ?_
                            refine L.no rfl ?_
                            refine L.no rfl ?_
                            refine L.no rfl ?_
                            refine L.va rfl (X.pickT rfl (by conv => lhs; whnf)) ?_
                            refine L.nil ?_
                            -- cond
                            refine J.iteT rfl ?_
                            refine J.seq ?_
                            refine J.region ?_
                            refine L.va rfl (X.assign (by conv => lhs; whnf)) ?_
                            refine L.nil ?_
                            -- ret
                            refine J.ret ?_
                            refine inB_ret <|  thn_ret <|  thn_ret <|  inB_ret <|  thn_ret <| ?_
                            refine fin1 ?_
                            exact ⟨rfl, he05⟩
                          · refine L.va rfl (X.move (by conv => lhs; whnf)) ?_
                            refine L.va rfl (X.gtr rfl rfl) ?_
                            refine L.va rfl (X.move (by conv => lhs; whnf)) ?_
                            -- case t101
                            refine L.caseDec (k := 101) rfl (fun g3 => ?_) (fun g3 => ?_)
                            · refine L.va rfl (X.move (by conv => lhs; whnf)) ?_
                              refine L.va rfl (X.fieldAddr rfl Try.underlying49 rfl sz_47 (by decide)) ?_
                              refine L.va rfl (X.load rfl sc_47 (by first | exact Ld.blk hk5 rfl | exact Ld.num hv5 (by omega) | exact Ld.rd hd5 (by omega))) ?_
                              refine L.va rfl (X.move (by conv => lhs; whnf)) ?_
                              refine L.va rfl (X.sub rfl rfl (by omega)) ?_
                              refine L.va rfl ((by first | exact X.index1n rfl rfl Try.underlying47 sz_50 (by first | exact Option.some_ne_none _ | exact hv5.some_ (by omega) | exact hd5.some_ (by omega)) (by omega) | exact X.index1 rfl rfl Try.underlying47 sz_50 (by first | exact Option.some_ne_none _ | exact hv5.some_ (by omega) | exact hd5.some_ (by omega)) (by omega))) ?_
                              refine L.va rfl (X.load rfl sc_50 (by first | exact Ld.blk hk5 rfl | exact Ld.num hv5 (by omega) | exact Ld.rd hd5 (by omega))) ?_
                              refine L.va rfl (X.leq rfl rfl) ?_
                              refine L.va rfl (X.pickT rfl (by conv => lhs; whnf)) ?_
                              refine L.va rfl (X.pickF rfl (by conv => lhs; whnf)) ?_
                              refine L.nil ?_
                              -- cond
                              refine J.dec rfl (fun g4 => ?_) (fun g4 => ?_)
                              · rw [hmf (hno (by omega))]
                                refine J.seq ?_
                                refine J.region ?_
                                refine L.va rfl (X.assign (by conv => lhs; whnf)) ?_
                                refine L.nil ?_
                                -- ret
                                refine J.ret ?_
                                refine inB_ret <|  thn_ret <|  thn_ret <|  inB_ret <|  thn_ret <| ?_
                                refine fin1 ?_
                                exact ⟨rfl, he05⟩
                              · refine J.skip ?_
                                refine J.region ?_
                                refine L.va rfl (X.add rfl rfl (by omega)) ?_
                                refine L.va rfl (X.move (by conv => lhs; whnf)) ?_
                                refine L.nil ?_
                                -- loopend
                                refine ⟨j + 1, At1 (by first | rfl | exact at_int rfl (by omega) | exact at_slice rfl (by omega) | exact at_int rfl (by simp)), (by (iterate 27 refine Agr.lk rfl ?_); exact Agr.lk rfl (Agr.hav rfl Agr.rfl')), ?_⟩
                                exact ⟨⟨rfl, by omega, viB_mk hV (by omega)⟩, by omega⟩
                            · refine L.no rfl ?_
                              refine L.no rfl ?_
                              refine L.no rfl ?_
                              refine L.no rfl ?_
                              refine L.no rfl ?_
                              refine L.no rfl ?_
                              refine L.no rfl ?_
                              refine L.no rfl ?_
                              refine L.va rfl (X.pickF rfl (by conv => lhs; whnf)) ?_
                              refine L.va rfl (X.pickF rfl (by conv => lhs; whnf)) ?_
                              refine L.nil ?_
                              -- cond
                              refine J.iteF rfl ?_
                              refine J.skip ?_
                              refine J.region ?_
                              refine L.va rfl (X.add rfl rfl (by omega)) ?_
                              refine L.va rfl (X.move (by conv => lhs; whnf)) ?_
                              refine L.nil ?_
                              -- loopend
                              refine ⟨j + 1, At1 (by first | rfl | exact at_int rfl (by omega) | exact at_slice rfl (by omega) | exact at_int rfl (by simp)), (by (iterate 27 refine Agr.lk rfl ?_); exact Agr.lk rfl (Agr.hav rfl Agr.rfl')), ?_⟩
                              exact ⟨⟨rfl, by omega, viB_mk hV (by omega)⟩, by omega⟩
                        · obtain rfl : j = nv := by omega
                          rw [t0 hB h9 hS hV]
                          refine J.exit ?_
                          refine J.seq ?_
                          refine J.region ?_
                          refine L.va rfl (X.assign (by conv => lhs; whnf)) ?_
                          refine L.nil ?_
                          -- ret
                          refine J.ret ?_
                          refine fin1 ?_
                          exact ⟨rfl, he05⟩
end Go.Proofs.Ytlipeplfjkgamaa
