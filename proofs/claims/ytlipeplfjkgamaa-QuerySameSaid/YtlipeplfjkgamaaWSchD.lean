/-
  What is light enough to be looked at: bounds on a schema's slices.
-/
import Derived.Test.YtlipeplfjkgamaaWSchC
namespace Go.Proofs.Ytlipeplfjkgamaa
set_option maxRecDepth 100000
open Go.RowKit H
set_option linter.unusedVariables false
theorem light11 (Ad : Option Addr) (nd cd : Nat) (A1 : Option Addr) (n1 c1 : Nat) (A2 : Option Addr) (n2 c2 : Nat) (Av : Option Addr) (nv cv : Nat) (ds : List (ByteArray × Int)) (s1 s2 : List ByteArray) (w : World)
    (hd : Reads w w.heap.size 2 Ad nd (dimsV ds)) (h1 : Reads w w.heap.size 1 A1 n1 (strs s1)) (h2 : Reads w w.heap.size 1 A2 n2 (strs s2)) :
    Calls Try.prog 29 #[.agg #[.slice Ad nd cd, .slice A1 n1 c1, .slice A2 n2 c2, .slice Av nv cv]] w fun e w' => ∃ b, e = .returned (.bool b) ∧ (b = true → nd ≤ 100 ∧ n1 ≤ 100 ∧ n2 ≤ 100 ∧ nv ≤ 100) ∧ Ext w w' := by
  refine enter Try.func29 rfl (by kernel_rfl) ?_
  refine J.seq ?_
  refine J.region ?_
  -- box
  refine L.boxA (l := [_, _, _, _]) rfl rfl ?_
  intro b1 w1 hb1 hs1 hk1 he1
  refine L.va rfl (X.assign (by conv => lhs; whnf)) ?_
  refine L.nil ?_
  refine J.seq ?_
  refine J.seq ?_
  refine J.region ?_
  refine L.va rfl (X.fieldAddr rfl Try.underlying49 rfl sz_45 (by decide)) ?_
  refine L.va rfl (X.load rfl sc_45 (by first | exact Ld.blk hk1 rfl)) ?_
  refine L.va rfl (X.len rfl Try.underlying45) ?_
  refine L.va rfl (X.gtr rfl rfl) ?_
  refine L.va rfl (X.move (by conv => lhs; whnf)) ?_
  -- case t9
  refine L.caseDec (k := 9) rfl (fun a1 => ?_) (fun a1 => ?_)
  · refine L.no rfl ?_
    refine L.no rfl ?_
    refine L.no rfl ?_
    refine L.no rfl ?_
    refine L.va rfl (X.pickT rfl (by conv => lhs; whnf)) ?_
    refine L.va rfl (X.move (by conv => lhs; whnf)) ?_
    refine L.no rfl ?_
    refine L.no rfl ?_
    refine L.no rfl ?_
    refine L.no rfl ?_
    refine L.va rfl (X.pickT rfl (by conv => lhs; whnf)) ?_
    refine L.va rfl (X.move (by conv => lhs; whnf)) ?_
    refine L.no rfl ?_
    refine L.no rfl ?_
    refine L.no rfl ?_
    refine L.no rfl ?_
    refine L.va rfl (X.pickT rfl (by conv => lhs; whnf)) ?_
    refine L.nil ?_
    -- cond
    refine J.iteT rfl ?_
    refine J.seq ?_
    refine J.region ?_
    refine L.va rfl (X.assign (by conv => lhs; whnf)) ?_
    refine L.nil ?_
    -- ret
    refine J.ret ?_
    refine thn_ret <| ?_
    refine fin1 ?_
    exact ⟨false, rfl, by simp, he1⟩
  · refine L.va rfl (X.fieldAddr rfl Try.underlying49 rfl sz_46 (by decide)) ?_
    refine L.va rfl (X.load rfl sc_46 (by first | exact Ld.blk hk1 rfl)) ?_
    refine L.va rfl (X.len rfl Try.underlying46) ?_
    refine L.va rfl (X.gtr rfl rfl) ?_
    refine L.va rfl (X.pickF rfl (by conv => lhs; whnf)) ?_
    refine L.va rfl (X.move (by conv => lhs; whnf)) ?_
    -- case t15
    refine L.caseDec (k := 15) rfl (fun a2 => ?_) (fun a2 => ?_)
    · refine L.no rfl ?_
      refine L.no rfl ?_
      refine L.no rfl ?_
      refine L.no rfl ?_
      refine L.va rfl (X.pickT rfl (by conv => lhs; whnf)) ?_
      refine L.va rfl (X.move (by conv => lhs; whnf)) ?_
      refine L.no rfl ?_
      refine L.no rfl ?_
      refine L.no rfl ?_
      refine L.no rfl ?_
      refine L.va rfl (X.pickT rfl (by conv => lhs; whnf)) ?_
      refine L.nil ?_
      -- cond
      refine J.iteT rfl ?_
      refine J.seq ?_
      refine J.region ?_
      refine L.va rfl (X.assign (by conv => lhs; whnf)) ?_
      refine L.nil ?_
      -- ret
      refine J.ret ?_
      refine thn_ret <| ?_
      refine fin1 ?_
      exact ⟨false, rfl, by simp, he1⟩
    · refine L.va rfl (X.fieldAddr rfl Try.underlying49 rfl sz_46 (by decide)) ?_
      refine L.va rfl (X.load rfl sc_46 (by first | exact Ld.blk hk1 rfl)) ?_
      refine L.va rfl (X.len rfl Try.underlying46) ?_
      refine L.va rfl (X.gtr rfl rfl) ?_
      refine L.va rfl (X.pickF rfl (by conv => lhs; whnf)) ?_
      refine L.va rfl (X.move (by conv => lhs; whnf)) ?_
      -- case t21
      refine L.caseDec (k := 21) rfl (fun a3 => ?_) (fun a3 => ?_)
      · refine L.no rfl ?_
        refine L.no rfl ?_
        refine L.no rfl ?_
        refine L.no rfl ?_
        refine L.va rfl (X.pickT rfl (by conv => lhs; whnf)) ?_
        refine L.nil ?_
        -- cond
        refine J.iteT rfl ?_
        refine J.seq ?_
        refine J.region ?_
        refine L.va rfl (X.assign (by conv => lhs; whnf)) ?_
        refine L.nil ?_
        -- ret
        refine J.ret ?_
        refine thn_ret <| ?_
        refine fin1 ?_
        exact ⟨false, rfl, by simp, he1⟩
      · refine L.va rfl (X.fieldAddr rfl Try.underlying49 rfl sz_47 (by decide)) ?_
        refine L.va rfl (X.load rfl sc_47 (by first | exact Ld.blk hk1 rfl)) ?_
        refine L.va rfl (X.len rfl Try.underlying47) ?_
        refine L.va rfl (X.gtr rfl rfl) ?_
        refine L.va rfl (X.pickF rfl (by conv => lhs; whnf)) ?_
        refine L.nil ?_
        -- cond
        refine J.dec rfl (fun a4 => ?_) (fun a4 => ?_)
        · refine J.seq ?_
          refine J.region ?_
          refine L.va rfl (X.assign (by conv => lhs; whnf)) ?_
          refine L.nil ?_
          -- ret
          refine J.ret ?_
          refine thn_ret <| ?_
          refine fin1 ?_
          exact ⟨false, rfl, by simp, he1⟩
        · refine J.skip ?_
          refine J.seq ?_
          refine J.region ?_
          refine L.va rfl ((by first | exact X.loadAgg rfl (range_l hk1) Try.underlying49 rfl (by kernel_rfl) | exact X.loadAgg rfl (range_blk hk1) Try.underlying49 rfl (by kernel_rfl))) ?_
          -- callfn bushel/bushelref11.names
          refine L.call rfl en_85 rfl (rnames_any Ad nd cd A1 n1 c1 A2 n2 c2 Av nv cv ds s1 s2 _ ((hd.ext he1).here (by decide)) ((h1.ext he1).here (by decide)) ((h2.ext he1).here (by decide)) (by omega) (by omega) (by omega)) ?_
          rintro e w2 ⟨A, c, rfl, ho, he2⟩
          refine ⟨_, rfl, ?_⟩
          have he2 : Ext w1 w2 := he2
          refine L.va rfl (X.assign (by conv => lhs; whnf)) ?_
          refine L.nil ?_
          refine J.seq ?_
          refine J.seq ?_
          refine J.region ?_
          refine L.va rfl (X.assign (by conv => lhs; whnf)) ?_
          refine L.nil ?_
          refine J.block ?_
          -- loop
          refine J.loop (X := Nat) [2, 4, 29, 30, 31, 32, 33, 34, 35, 36, 37, 38, 39, 40] (fun i => [(4, .int .i64 (i : Int))]) (fun i w' => w' = w2 ∧ i ≤ nd + n1 + n2) (fun i => nd + n1 + n2 - i) (0) (At1 (by first | rfl | exact at_int rfl (by omega) | exact at_slice rfl (by omega) | exact at_int rfl (by simp))) ?_ ?_
          · exact ⟨rfl, by omega⟩
          · rintro i g w3 ⟨rfl, hi⟩
            refine J.seq ?_
            refine J.seq ?_
            refine J.region ?_
            refine L.va rfl (X.move (by conv => lhs; whnf)) ?_
            refine L.va rfl (X.move (by conv => lhs; whnf)) ?_
            refine L.va rfl (X.len rfl Try.underlying46) ?_
            refine L.va rfl (X.lss rfl rfl) ?_
            refine L.nil ?_
            -- cond
            refine J.dec rfl (fun hlt => ?_) (fun hlt => ?_)
            · refine J.skip ?_
              refine J.seq ?_
              refine J.block ?_
              refine J.seq ?_
              refine J.region ?_
              refine L.va rfl (X.move (by conv => lhs; whnf)) ?_
              refine L.va rfl (X.move (by conv => lhs; whnf)) ?_
              refine L.va rfl ((by first | exact X.index1n rfl rfl Try.underlying46 sz_9 (by first | exact Option.some_ne_none _ | exact own_ne ho (by omega)) (by omega) | exact X.index1 rfl rfl Try.underlying46 sz_9 (by first | exact Option.some_ne_none _ | exact own_ne ho (by omega)) (by omega))) ?_
              refine L.va rfl (X.load rfl sc_9 (by first | exact Ld.ostr ho (by omega))) ?_
              refine L.va rfl (X.lens rfl Try.underlying9) ?_
              refine L.va rfl (X.gtr rfl rfl) ?_
              refine L.nil ?_
              -- cond
              refine J.dec rfl (fun a5 => ?_) (fun a5 => ?_)
              · refine J.seq ?_
                refine J.region ?_
                refine L.va rfl (X.assign (by conv => lhs; whnf)) ?_
                refine L.nil ?_
                -- ret
                refine J.ret ?_
                refine inB_ret <|  thn_ret <|  thn_ret <|  inB_ret <|  thn_ret <| ?_
                refine fin1 ?_
                exact ⟨false, rfl, by simp, he1.trans he2⟩
              · refine J.skip ?_
                refine J.region ?_
                refine L.va rfl (X.move (by conv => lhs; whnf)) ?_
                refine L.va rfl (X.add rfl rfl (by omega)) ?_
                refine L.va rfl (X.assign (by conv => lhs; whnf)) ?_
                refine L.nil ?_
                -- loopend
                refine ⟨i + 1, At1 (by first | rfl | exact at_int rfl (by omega) | exact at_slice rfl (by omega) | exact at_int rfl (by simp)), (by (iterate 13 refine Agr.lk rfl ?_); exact Agr.lk rfl (Agr.hav rfl Agr.rfl')), ?_⟩
                exact ⟨⟨rfl, by omega⟩, by omega⟩
            · refine J.exit ?_
              refine J.seq ?_
              refine J.region ?_
              refine L.va rfl (X.assign (by conv => lhs; whnf)) ?_
              refine L.nil ?_
              -- ret
              refine J.ret ?_
              refine fin1 ?_
              exact ⟨true, rfl, fun _ => ⟨by omega, by omega, by omega, by omega⟩, he1.trans he2⟩
end Go.Proofs.Ytlipeplfjkgamaa
