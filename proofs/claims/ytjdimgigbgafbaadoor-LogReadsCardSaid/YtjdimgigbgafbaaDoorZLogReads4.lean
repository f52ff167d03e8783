import Derived.Test.YtjdimgigbgafbaaDoorZLogReads3
/-
  What the law leans on, part 4: LogAw, Mark, WLogG, WDiskJ, WDiskK, WDiskL, WFrC, WLogH, WLogI, WLogK.
-/
namespace Go.Proofs.YtjdimgigbgafbaaDoor
set_option maxRecDepth 100000
open Byts Seal Fram
set_option linter.unusedVariables false
namespace Lo
theorem do_wr {s : Ds} (hoff : s.off = false) (hl : s.left = -1) (a : Nat) (ha : a < s.kept.length) (b : List Int) (hb : b.length = 1024) : s.do_ ⟨1, (a : Int), b, true, []⟩ = (⟨s.kept, s.pend ++ [(a, b)], false, -1, s.rd, s.wr + 1, s.fl⟩, [], 0) := by
  have h : s.do_ ⟨1, (a : Int), b, true, []⟩ = ({ s with left := Dk.dec1 s.left, wr := s.wr + 1, pend := s.pend ++ [(a, b)] }, [], 0) := by
    unfold Ds.do_
    rw [if_neg (show ¬ (1 : Int) = 3 by decide), if_neg (show ¬ (1 : Int) = 4 by decide), if_neg (show ¬ s.off = true by rw [hoff]; decide), if_neg, if_neg (show ¬ (1 : Int) = 0 by decide), if_neg, if_neg (show ¬ s.left = 0 by omega), if_pos (show (1 : Int) = 1 from rfl)]
    · rfl
    · rintro ⟨_, h⟩
      exact h hb
    · rintro ⟨_, h | h⟩
      · have h : (a : Int) < 0 := h
        omega
      · have h : (s.kept.length : Int) ≤ (a : Int) := h
        omega
  rw [h, hl, ← hoff]
  rfl
theorem do_fl {s : Ds} (hoff : s.off = false) (hl : s.left = -1) : s.do_ ⟨2, 0, [], true, []⟩ = (⟨keI (fun _ => true) s.kept [] s.pend s.pend.length, [], false, -1, s.rd, s.wr, s.fl + 1⟩, [], 0) := by
  have h : s.do_ ⟨2, 0, [], true, []⟩ = ({ s with left := Dk.dec1 s.left, fl := s.fl + 1, kept := keI (fun _ => true) s.kept [] s.pend s.pend.length, pend := [] }, [], 0) := by
    unfold Ds.do_
    rw [if_neg (show ¬ (2 : Int) = 3 by decide), if_neg (show ¬ (2 : Int) = 4 by decide), if_neg (show ¬ s.off = true by rw [hoff]; decide), if_neg, if_neg (show ¬ (2 : Int) = 0 by decide), if_neg, if_neg (show ¬ s.left = 0 by omega), if_neg (show ¬ (2 : Int) = 1 by decide)]
    · rintro ⟨h, _⟩
      exact absurd (show (2 : Int) = 1 from h) (by decide)
    · rintro ⟨h, _⟩
      exact h rfl
  rw [h, hl, ← hoff]
  rfl
theorem do_cr (s : Ds) (k : List Bool) : s.do_ ⟨4, 0, [], true, k⟩ = (⟨keI (Dk.kpF k) s.kept [] s.pend s.pend.length, [], false, -1, s.rd, s.wr, s.fl⟩, [], 0) := by
  unfold Ds.do_
  rw [if_neg (show ¬ (4 : Int) = 3 by decide), if_pos (show (4 : Int) = 4 from rfl)]
def zZ2 : List Int := List.replicate 1024 0
theorem zZ2_len : zZ2.length = 1024 := List.length_replicate
theorem zZ2_no (ep : Int) : okP zZ2 ep = false := by
  refine decide_eq_false fun h => ?_
  have h1 := h.1
  have hl : ¬ zZ2.length ≠ 1024 := fun h => h zZ2_len
  have h0 : zZ2.getD 0 0 = 0 := by simp [zZ2, List.getD]
  unfold sE at h1
  rw [if_neg hl] at h1
  split at h1
  · cases h1
  · rw [if_pos (.inl h0)] at h1
    cases h1
theorem zZ2_bytes : Bytes zZ2 := by
  intro z hz
  rw [zZ2, List.mem_replicate] at hz
  omega
theorem okP_sec {ep nx : Int} {i : Nat} {p : Int} {ch : List Int} (hep : 0 ≤ ep ∧ ep ≤ 18446744073709551615) (hn : 1 ≤ nx ∧ nx < 4611686018427387904) (h0 : 0 < ch.length) (h1 : ch.length ≤ 991) (hi : i < 65536) (hp : 0 ≤ p ∧ p ≤ 18446744073709551615) :
    okP (secL ep nx (shB i p ch)) ep = true ∧ sB smZ (secL ep nx (shB i p ch)) = nx ∧ pAt (secL ep nx (shB i p ch)) = i ∧ pPrev (secL ep nx (shB i p ch)) = p ∧ pBy (secL ep nx (shB i p ch)) = ch := by
  have hl : (shB i p ch).length = 10 + ch.length := by unfold shB; simp only [List.length_append, be_length]; omega
  obtain ⟨e1, e2, e3, e4, e5⟩ := sec_get smZ (fun _ => rfl) 1 ep nx (shB i p ch) (by omega) (by omega) hep.1 hep.2 (by omega) (by omega)
  have e5' : sV smZ (secL ep nx (shB i p ch)) = shB i p ch := e5
  refine ⟨decide_eq_true ⟨e1, e2, e3, by rw [show sB smZ (secL ep nx (shB i p ch)) = nx from e4]; exact hn.1, by rw [show sB smZ (secL ep nx (shB i p ch)) = nx from e4]; exact hn.2, by rw [e5']; omega⟩, e4, ?_, ?_, ?_⟩
  · unfold pAt
    rw [e5']
    have ee : be 2 (i : Int) = [(i : Int) / 256 % 256, (i : Int) / 1 % 256] := rfl
    unfold shB
    rw [ee]
    show (i : Int) / 256 % 256 * 256 + (i : Int) / 1 % 256 = i
    omega
  · unfold pPrev
    rw [e5']
    unfold shB
    rw [List.drop_left' (be_length _ _), List.take_left' (be_length _ _)]
    exact num_be 8 p hp.1 (by
      have : (256 : Int) ^ 8 = 18446744073709551616 := by decide
      omega)
  · unfold pBy
    rw [e5']
    unfold shB
    rw [← List.append_assoc, List.drop_left' (by rw [List.length_append, be_length, be_length])]
theorem recs_one {b : List Int} (hl : b.length ≤ 60000) : allF (frm smZ b) 0 = ([b], 8 + b.length, 0) := by
  have h0 := gE_frm smZ (fun _ => rfl) b [] hl
  have h1 := gB_frm smZ (fun _ => rfl) b [] hl
  rw [List.append_nil] at h0 h1
  have hlen : (frm smZ b).length = 8 + b.length := frm_length smZ (fun _ => rfl) b
  have hs : gStep (frm smZ b) = 8 + b.length := by unfold gStep; rw [h1.2]; omega
  rw [allF_ok (by omega) (by rw [List.drop_zero]; exact h0.2), List.drop_zero, h1.1, hs, allF_end (by omega), Nat.zero_add]
theorem app_one {s : Ds} {l : Ls} {b : List Int} (hoff : s.off = false) (hl : s.left = -1) (hk : s.kept.length = 2) (hf : l.fr = 0) (hc : l.ct = 2) (hb : l.bad = 0) (hs : l.sm.length ≤ 100) (hbl : b.length ≤ 100) (hn : l.nx ≤ 1000) :
    appL s l b = (⟨s.kept, s.pend ++ [(0, secL l.ep l.nx (shB 0 0 (l.sm ++ frm smZ b)))], false, -1, s.rd, s.wr + 1, s.fl⟩, { l with sm := l.sm ++ frm smZ b, tm := [l.nx], nx := l.nx + 1 }, 0) := by
  have hfl : (frm smZ b).length = 8 + b.length := frm_length smZ (fun _ => rfl) b
  have e1 : l.sm.length / 991 = 0 := Nat.div_eq_of_lt (by omega)
  have e2 : (l.sm.length + (8 + b.length) - 1) / 991 = 0 := Nat.div_eq_of_lt (by omega)
  unfold appL
  rw [if_neg (by omega), if_neg (by omega)]
  dsimp only
  rw [hfl, e1, e2, if_neg (by omega)]
  have hch : chunk { l with sm := l.sm ++ frm smZ b } 0 = l.sm ++ frm smZ b := by
    unfold chunk
    rw [Nat.zero_mul, List.drop_zero]
    exact List.take_of_length_le (by show (l.sm ++ frm smZ b).length ≤ 991; rw [List.length_append]; omega)
  have hbl2 : (secL l.ep l.nx (shB 0 0 (l.sm ++ frm smZ b))).length = 1024 := secL_len _ _ _ (by unfold shB; simp only [List.length_append, be_length]; omega)
  have hw : wrL s { l with sm := l.sm ++ frm smZ b } 0 = (⟨s.kept, s.pend ++ [(0, secL l.ep l.nx (shB 0 0 (l.sm ++ frm smZ b)))], false, -1, s.rd, s.wr + 1, s.fl⟩, { l with sm := l.sm ++ frm smZ b, tm := [l.nx], nx := l.nx + 1 }, 0) := by
    unfold wrL
    rw [hch]
    have hd := do_wr hoff hl 0 (by omega) _ hbl2
    have hp : prevL { l with sm := l.sm ++ frm smZ b } 0 = 0 := rfl
    rw [hp]
    dsimp only
    rw [show ((l.fr + 0 : Nat) : Int) = ((0 : Nat) : Int) by rw [hf], hd]
    rfl
  show wrN s { l with sm := l.sm ++ frm smZ b } 0 1 = _
  unfold wrN
  rw [hw]
  rfl
end Lo
end Go.Proofs.YtjdimgigbgafbaaDoor
namespace Go.Proofs.YtjdimgigbgafbaaDoor
set_option maxRecDepth 100000
open Go.RowKit H
set_option linter.unusedVariables false
theorem run_mark {P : Program} {w : World} {t e : TypeId} {g n c : Nat} {cs : Array Value} (hb : Blk w g e cs) (ht : P.underlying t = some (.slice e)) (he : P.underlying e = some (.int .u8)) :
    (convert t t (.slice (some ⟨g, 0, none⟩) n c)).run P w = .ok (.slice (some ⟨g, 0, none⟩) n c) (w.freeze ⟨g, cs.size, none⟩ 1) := by
  have hsh : w.shape? g = some (e, cs.size) := by
    unfold World.shape?
    rw [show w.heap[g]? = _ from hb]
  simp [convert, run_underlying ht, run_underlying he, markStringish, hsh]
theorem freeze_at {w : World} {g e : Nat} {cs : Array Value} (hb : Blk w g e cs) : (w.freeze ⟨g, cs.size, none⟩ 1).heap[g]? = some (.cells cs e (cs.size, cs.size + 1)) := by
  have hlt := hb.lt
  unfold World.freeze
  rw [if_neg (by decide)]
  show (w.heap.modify g _)[g]? = _
  rw [Array.getElem?_eq_getElem (by rw [Array.size_modify]; exact hlt), Array.getElem_modify_self]
  have hk : w.heap[g] = .cells cs e (0, 0) := by
    have := hb
    unfold Blk at this
    rw [Array.getElem?_eq_getElem hlt] at this
    exact Option.some.inj this
  rw [hk]
  rfl
theorem freeze_grown (w : World) (g k : Nat) : w.grownBy (w.freeze ⟨g, k, none⟩ 1) (some g) := by
  unfold World.freeze
  rw [if_neg (by decide)]
  refine ⟨rfl, rfl, rfl, by show w.heap.size ≤ (w.heap.modify g _).size; rw [Array.size_modify]; exact Nat.le_refl _, fun j hj hne => ?_⟩
  show (w.heap.modify g _)[j]? = _
  rw [Array.getElem?_modify, if_neg (fun e => hne (by rw [e]))]
theorem L.mark {P : Program} {n : Nat} {ops rest : List Oper} {Q : Exit → Fr → World → Prop} {f : Fr} {w : World} {d : Option Tmp} {ty : TypeId} {pos : String} {aft : Array Edge} {gd : Option (Nat × Bool)} {x : Operand} {t e : TypeId} {g m c q : Nat} {cs : Array Value} (hg : wn ops f gd = true) (hx : ev f x = .slice (some ⟨g, 0, none⟩) m c) (hb : Blk w g e cs) (hq : cs.size = q)
    (ht : P.underlying t = some (.slice e)) (he : P.underlying e = some (.int .u8))
    (h : ∀ w', Reads w' (g + 1) 1 (some ⟨g, 0, none⟩) q cs.toList → w.grownBy w' (some g) → L P n ops Q rest (putO f d (.slice (some ⟨g, 0, none⟩) m c)) w') : L P n ops Q (⟨d, .convert t t x, ty, pos, aft, gd⟩ :: rest) f w := by
  refine L.val hg (w' := w.freeze ⟨g, cs.size, none⟩ 1) (v := .slice (some ⟨g, 0, none⟩) m c) ?_ (h _ ?_ (freeze_grown w g _))
  · have := run_mark (n := m) (c := c) hb ht he
    simp only [execOp, hx]
    simp [this]
  · subst hq
    refine ⟨by simp, fun _ => ⟨⟨g, 0, none⟩, rfl, Nat.lt_succ_self _, fun j u hu => ?_⟩⟩
    have := cell_of_row _ g j cs e _ (freeze_at hb)
    rw [Addr.add_mid, Nat.zero_add, this]
    simpa using hu
end Go.Proofs.YtjdimgigbgafbaaDoor
namespace Go.Proofs.YtjdimgigbgafbaaDoor
set_option maxRecDepth 100000
open Go.RowKit H
open Lo Byts Seal Fram
set_option linter.unusedVariables false
theorem ok2S {k0 k1 : List Int} (h0 : k0.length = 1024) (h1 : k1.length = 1024) {p : List (Nat × List Int)} (hp : ∀ x ∈ p, x.1 < 2 ∧ x.2.length = 1024) (hl : p.length ≤ 10) (o : Bool) (l a b c : Int) (h : -1 ≤ l ∧ l ≤ 10 ∧ 0 ≤ a ∧ a ≤ 10 ∧ 0 ≤ b ∧ b ≤ 10 ∧ 0 ≤ c ∧ c ≤ 10) : Ds.Ok ⟨[k0, k1], p, o, l, a, b, c⟩ 10 :=
  ⟨by show 1 ≤ 2 ∧ 2 ≤ 8192; omega, by intro x hx; simp only [List.mem_cons, List.not_mem_nil, or_false] at hx; rcases hx with rfl | rfl <;> assumption, hp, by show p.length ≤ 10 ∧ (0 ≤ a ∧ a ≤ ((10 : Nat) : Int)) ∧ (0 ≤ b ∧ b ≤ ((10 : Nat) : Int)) ∧ (0 ≤ c ∧ c ≤ ((10 : Nat) : Int)); omega, by show -1 ≤ l ∧ l ≤ 9223372036854775807; omega⟩
theorem sec_bytes {ep nx : Int} {bd : List Int} (h : Bytes bd) : Bytes (secL ep nx bd) := by
  intro z hz
  unfold secL sec at hz
  rcases List.mem_append.1 hz with hz | hz
  · exact hd_bytes _ _ _ _ (by decide) h z hz
  · exact smZ_bytes _ z hz
def fA : List Int := frm smZ [97]
def fB : List Int := frm smZ [98]
theorem fA_len : fA.length = 9 := frm_length smZ (fun _ => rfl) [97]
def S1 : List Int := secL 1 1 (shB 0 0 fA)
def S2 : List Int := secL 1 2 (shB 0 0 (fA ++ fB))
theorem S1_len : S1.length = 1024 := secL_len _ _ _ (by unfold shB; simp only [List.length_append, be_length, fA_len]; omega)
theorem S2_len : S2.length = 1024 := secL_len _ _ _ (by
  have : fB.length = 9 := frm_length smZ (fun _ => rfl) [98]
  unfold shB
  simp only [List.length_append, be_length, fA_len, this]
  omega)
theorem one_bytes {z : Int} (h : 0 ≤ z ∧ z < 256) : Bytes [z] := by intro y hy; simp only [List.mem_singleton] at hy; omega
theorem S1_bytes : Bytes S1 := sec_bytes (shB_bytes (frm_bytes _ (one_bytes (z := 97) (by decide))))
def dA : Ds := ⟨[zZ2, zZ2], [], false, -1, 0, 0, 0⟩
def dB : Ds := ⟨[zZ2, zZ2], [], false, -1, 2, 0, 0⟩
def dC : Ds := ⟨[zZ2, zZ2], [(0, S1)], false, -1, 2, 1, 0⟩
def dD : Ds := ⟨[S1, zZ2], [], false, -1, 2, 1, 1⟩
def dE : Ds := ⟨[S1, zZ2], [(0, S2)], false, -1, 2, 2, 1⟩
def dF : Ds := ⟨[S1, zZ2], [], false, -1, 2, 2, 1⟩
def lA : Ls := ⟨0, 2, 1, 1, [], [], 0⟩
def lB : Ls := ⟨0, 2, 1, 2, fA, [1], 0⟩
def lC : Ls := ⟨0, 2, 1, 3, fA ++ fB, [2], 0⟩
theorem dA_rd : rdN dA 2 = dB := rfl
theorem opA : opI dA 0 1 2 = ⟨1, false, [], []⟩ := by
  have h0 : dA.now (0 + 0) = zZ2 := rfl
  have h1 : dA.now (0 + 1) = zZ2 := rfl
  show opStep 1 1 (dA.now (0 + 1)) (opStep 1 0 (dA.now (0 + 0)) ⟨1, true, [], []⟩) = _
  rw [h0, h1]
  have e : ∀ (i : Nat) (o : Lo.Os), opStep 1 i zZ2 o = ⟨o.nx, false, o.tm, o.sm⟩ := by
    intro i o
    unfold opStep opNx
    rw [zZ2_no, Bool.and_false, Bool.false_and]
    rfl
  rw [e, e]
theorem allF_nil : allF [] 0 = ([], 0, 0) := allF_end (Nat.le_refl _)
theorem openA : openL dA 0 2 1 = lA := by
  unfold openL used
  rw [opA]
  dsimp only
  rw [allF_nil]
  rfl
theorem appA : appL dB lA [97] = (dC, lB, 0) := by
  have := app_one (s := dB) (l := lA) (b := [97]) rfl rfl rfl rfl rfl rfl (by decide) (by decide) (by decide)
  rw [this]
  rfl
theorem syncB : syncL dC lB = (dD, lB, 0) := by
  have h : dC.do_ ⟨2, 0, [], true, []⟩ = (dD, [], 0) := do_fl rfl rfl
  unfold syncL
  rw [if_neg (by decide), h]
  rfl
theorem appB : appL dD lB [98] = (dE, lC, 0) := by
  have := app_one (s := dD) (l := lB) (b := [98]) rfl rfl rfl rfl rfl rfl (by rw [show lB.sm.length = 9 from fA_len]; decide) (by decide) (by decide)
  rw [this]
  rfl
theorem crashE : (dE.do_ ⟨4, 0, [], true, []⟩).1 = dF := by
  rw [do_cr]
  rfl
theorem opF : opI dF 0 1 2 = ⟨2, false, [1], fA⟩ := by
  have h0 : dF.now (0 + 0) = S1 := rfl
  have h1 : dF.now (0 + 1) = zZ2 := rfl
  show opStep 1 1 (dF.now (0 + 1)) (opStep 1 0 (dF.now (0 + 0)) ⟨1, true, [], []⟩) = _
  rw [h0, h1]
  obtain ⟨q1, q2, q3, q4, q5⟩ := okP_sec (ep := 1) (nx := 1) (i := 0) (p := 0) (ch := fA) (by decide) (by decide) (by rw [fA_len]; decide) (by rw [fA_len]; decide) (by decide) (by decide)
  have e0 : opStep 1 0 S1 ⟨1, true, [], []⟩ = ⟨2, true, [1], fA⟩ := by
    have hf : fol ⟨1, true, [], []⟩ 0 S1 = true := by
      unfold fol
      rw [if_neg, if_pos rfl]
      · exact decide_eq_true q4
      · rintro (h | h)
        · exact h q3
        · exact h rfl
    unfold opStep opNx
    rw [show okP S1 1 = true from q1, hf, show sB smZ S1 = 1 from q2, show pBy S1 = fA from q5]
    rfl
  have e : ∀ (i : Nat) (o : Lo.Os), opStep 1 i zZ2 o = ⟨o.nx, false, o.tm, o.sm⟩ := by
    intro i o
    unfold opStep opNx
    rw [zZ2_no, Bool.and_false, Bool.false_and]
    rfl
  rw [e0, e]
theorem recF : recs (opI dF 0 1 2).sm = [[97]] := by
  unfold recs
  rw [opF]
  show (allF (frm smZ [97]) 0).1 = [[97]]
  rw [recs_one (by decide)]
theorem one_of_map {bs : List Bo} {l : List Int} (h : bs.map Bo.l = [l]) : ∃ b, bs = [b] ∧ b.l = l := by
  cases bs with
  | nil => cases h
  | cons a t =>
    cases t with
    | nil =>
      injection h with h
      exact ⟨a, rfl, h⟩
    | cons b u =>
      injection h with _ h
      cases h
theorem awake22 (w : World) (ht : Tab w) : Calls Tryd.prog 7 #[] w fun e w' => e = .returned (.bool true) ∧ Ext w w' := by
  have hz2 := zZ2_len
  have hS1 := S1_len
  have hS2 := S2_len
  have hpC : ∀ x ∈ dC.pend, x.1 < 2 ∧ x.2.length = 1024 := by intro x hx; simp only [dC, List.mem_singleton] at hx; subst hx; exact ⟨by decide, hS1⟩
  have hpE : ∀ x ∈ dE.pend, x.1 < 2 ∧ x.2.length = 1024 := by intro x hx; simp only [dE, List.mem_singleton] at hx; subst hx; exact ⟨by decide, hS2⟩
  have okA : dA.Ok 10 := ok2S hz2 hz2 (by intro x hx; cases hx) (by decide) _ _ _ _ _ (by decide)
  have okB : dB.Ok 10 := ok2S hz2 hz2 (by intro x hx; cases hx) (by decide) _ _ _ _ _ (by decide)
  have okC : dC.Ok 10 := ok2S hz2 hz2 hpC (by decide) _ _ _ _ _ (by decide)
  have okD : dD.Ok 10 := ok2S hS1 hz2 (by intro x hx; cases hx) (by decide) _ _ _ _ _ (by decide)
  have okE : dE.Ok 10 := ok2S hS1 hz2 hpE (by decide) _ _ _ _ _ (by decide)
  have okF : dF.Ok 10 := ok2S hS1 hz2 (by intro x hx; cases hx) (by decide) _ _ _ _ _ (by decide)
  have byA : Byte dA := ⟨by intro x hx; simp only [dA, List.mem_cons, List.not_mem_nil, or_false, or_self] at hx; subst hx; exact zZ2_bytes, by intro x hx; cases hx⟩
  have byF : Byte dF := ⟨by intro x hx; simp only [dF, List.mem_cons, List.not_mem_nil, or_false] at hx; rcases hx with rfl | rfl; exact S1_bytes; exact zZ2_bytes, by intro x hx; cases hx⟩
  refine enter Tryd.func7 rfl (by kernel_rfl) ?_
  refine J.seq ?_
  refine J.region ?_
  refine L.va rfl (X.assign (by conv => lhs; whnf)) ?_
  refine L.nil ?_
  refine J.seq ?_
  refine J.region ?_
  refine L.call rfl en_8 rfl (new_ok 2 (by omega)) ?_
  rintro e w1 ⟨v, rfl, hv, k1, k2, k3, k4, k5, k6, k7, he1⟩
  refine ⟨_, rfl, ?_⟩
  have a1 : v.abs = dA := by
    unfold Dk.abs abs_
    rw [show v.kp.map (·.2) = v.dat from rfl, k7, k1, k2, k3, k4, k5, k6]
    rfl
  have hkl : v.kp.length = 2 := by rw [← v.klen, a1]; rfl
  have hlo := openL_ok (s := dA) byA (fr := 0) (ct := 2) (ep := 1) (by decide) (by decide) (by decide)
  have K1 := lopen hv (by rw [a1]; exact okA) (by omega) k1 (by rw [a1]; exact byA) (tabx ht he1) ht.size 0 2 (by omega) (by omega) (by omega) 1 (by omega)
  refine L.va rfl (X.move (by conv => lhs; whnf)) ?_
  refine L.va rfl (X.extract rfl rfl) ?_
  refine L.va rfl (X.extract rfl rfl) ?_
  refine L.va rfl (X.assign (by conv => lhs; whnf)) ?_
  refine L.va rfl (X.assign (by conv => lhs; whnf)) ?_
  refine L.nil ?_
  refine J.seq ?_
  refine J.region ?_
  refine L.va rfl (X.move (by conv => lhs; whnf)) ?_
  refine L.call rfl en_10 rfl (K1) ?_
  rintro e w2 ⟨G2, v2, A2, c2, bs2, rfl, O2⟩
  refine ⟨_, rfl, ?_⟩
  have a2 := O2.ab
  rw [a1, dA_rd] at a2
  have s2 := O2.st
  rw [a1, openA] at s2
  have B2 : Below w.heap.size w w2 := Below.trans he1 (hv.below O2.kq)
  have H2 := O2.at_
  have d2 := O2.d
  have kk2 := O2.kb
  refine L.va rfl (X.move (by conv => lhs; whnf)) ?_
  refine L.va rfl (X.extract rfl rfl) ?_
  refine L.va rfl (X.extract rfl rfl) ?_
  refine L.va rfl (X.extract rfl rfl) ?_
  refine L.va rfl (X.assign (by conv => lhs; whnf)) ?_
  refine L.va rfl (X.assign (by conv => lhs; whnf)) ?_
  refine L.va rfl (X.assign (by conv => lhs; whnf)) ?_
  refine L.nil ?_
  refine J.seq ?_
  refine J.region ?_
  refine L.va rfl (X.move (by conv => lhs; whnf)) ?_
  refine L.bslice (vs := [_]) rfl (Evs.cons (by conv => lhs; whnf) Evs.nil) rfl rfl rfl rfl Tryd.underlying39 sz_5 zr_5 (by decide) ?_
  intro b3 w3 hb3 hs3 hk3 he3
  refine L.mark rfl rfl (hk3) rfl Tryd.underlying39 Tryd.underlying5 ?_
  intro w4 hr4 hg4
  have he24 : Ext w2 w4 := he3.grw hg4 (by intro g hg; injection hg with hg; omega)
  have H4 := H2.ext he24
  have z4 := he24.le
  have hb3lt : b3 + 1 ≤ w4.heap.size := by have := hk3.lt; have := hg4.size; omega
  have hr4 : Reads w4 (b3 + 1) 1 (some ⟨b3, 0, none⟩) 1 (nums .u8 [97]) := hr4
  have K4 := lappend H4 (by rw [a2]; exact okB) (by omega) O2.ok (some ⟨b3, 0, none⟩) 1 1 [97] (hr4.more hb3lt) (one_bytes (by decide)) (by omega)
  rw [a2, s2, appA] at K4
  refine L.call rfl en_12 rfl (K4) ?_
  rintro e w5 ⟨rfl, G5, v5, H5, d5, kk5, a5, s5, ch5, g5⟩
  refine ⟨_, rfl, ?_⟩
  dsimp only at a5 s5
  have B5 := B2.trans (Below.trans (Below.mono he24 H2.hd.nsz) (H4.below ch5))
  have K5 := lsync H5 (by rw [a5]; exact okC) (by omega)
  rw [a5, s5, syncB, show G5.ptr = G2.ptr by unfold Lg.ptr; rw [g5.p]] at K5
  refine L.va rfl (X.assign (by conv => lhs; whnf)) ?_
  refine L.nil ?_
  refine J.seq ?_
  refine J.region ?_
  refine L.va rfl (X.move (by conv => lhs; whnf)) ?_
  refine L.call rfl en_15 rfl (K5) ?_
  rintro e w6 ⟨rfl, G6, v6, H6, d6, kk6, a6, s6, ch6, g6⟩
  refine ⟨_, rfl, ?_⟩
  dsimp only at a6 s6
  have B6 := B5.trans (H5.below ch6)
  have K6 := lused H6
  have hl9 : lB.sm.length = 9 := fA_len
  rw [s6, hl9, show G6.ptr = G2.ptr by unfold Lg.ptr; rw [g6.p, g5.p]] at K6
  refine L.va rfl (X.assign (by conv => lhs; whnf)) ?_
  refine L.nil ?_
  refine J.seq ?_
  refine J.region ?_
  refine L.va rfl (X.move (by conv => lhs; whnf)) ?_
  refine L.call rfl en_23 rfl (K6) ?_
  rintro e _ ⟨rfl, rfl⟩
  refine ⟨_, rfl, ?_⟩
  refine L.va rfl (X.assign (by conv => lhs; whnf)) ?_
  refine L.nil ?_
  refine J.seq ?_
  refine J.region ?_
  refine L.va rfl (X.move (by conv => lhs; whnf)) ?_
  refine L.bslice (vs := [_]) rfl (Evs.cons (by conv => lhs; whnf) Evs.nil) rfl rfl rfl rfl Tryd.underlying39 sz_5 zr_5 (by decide) ?_
  intro b7 w7 hb7 hs7 hk7 he7
  refine L.mark rfl rfl (hk7) rfl Tryd.underlying39 Tryd.underlying5 ?_
  intro w8 hr8 hg8
  have he68 : Ext w6 w8 := he7.grw hg8 (by intro g hg; injection hg with hg; omega)
  have H8 := H6.ext he68
  have hb7lt : b7 + 1 ≤ w8.heap.size := by have := hk7.lt; have := hg8.size; omega
  have hr8 : Reads w8 (b7 + 1) 1 (some ⟨b7, 0, none⟩) 1 (nums .u8 [98]) := hr8
  have hk66 : v6.kp.length = 2 := by rw [← v6.klen, a6]; rfl
  have hL6 : Lo.Ok lB v6.kp.length := by
    rw [hk66]
    refine ⟨by decide, by decide, by decide, by decide, by decide, frm_bytes _ (one_bytes (z := 97) (by decide)), by rw [hl9]; decide, fun _ => by rw [hl9]; rfl, ?_, by decide⟩
    intro x hx
    have hx : x ∈ [(1 : Int)] := hx
    simp only [List.mem_singleton] at hx
    omega
  have K8 := lappend H8 (by rw [a6]; exact okD) (by omega) (by rw [s6]; exact hL6) (some ⟨b7, 0, none⟩) 1 1 [98] (hr8.more hb7lt) (one_bytes (by decide)) (by omega)
  rw [a6, s6, appB, show G6.ptr = G2.ptr by unfold Lg.ptr; rw [g6.p, g5.p]] at K8
  refine L.call rfl en_12 rfl (K8) ?_
  rintro e w9 ⟨rfl, G9, v9, H9, d9, kk9, a9, s9, ch9, g9⟩
  refine ⟨_, rfl, ?_⟩
  dsimp only at a9 s9
  have B9 := B6.trans (Below.trans (Below.mono he68 H6.hd.nsz) (H8.below ch9))
  have ptr9 : v.ptr = v9.ptr := by unfold Dk.ptr; rw [d9, d6, d5, d2]
  have K9 := H9.hd.crash_anyF (by rw [a9]; exact okE) (by omega) ⟨4, 0, [], true, []⟩ rfl none 0 0 Reads.none_ (by omega)
  rw [a9, crashE, ← ptr9] at K9
  refine L.va rfl (X.assign (by conv => lhs; whnf)) ?_
  refine L.nil ?_
  refine J.seq ?_
  refine J.region ?_
  refine L.va rfl (X.move (by conv => lhs; whnf)) ?_
  refine L.call rfl en_17 rfl (K9) ?_
  rintro e w10 ⟨rfl, v10, p1, p2, p3, p4, p5, p6⟩
  refine ⟨_, rfl, ?_⟩
  have H10 := H9.disk p1 p2 p5 p6
  have B10 := B9.trans (H9.hd.below p5)
  have ptr10 : v.ptr = v10.ptr := by rw [ptr9]; unfold Dk.ptr; rw [p2]
  have hk10 : v10.kp.length = 2 := by rw [← v10.klen, p4]; rfl
  have of10 : v10.off = false := by have : v10.abs.off = dF.off := by rw [p4]
                                    exact this
  have K10 := lopen p1 (by rw [p4]; exact okF) (by omega) of10 (by rw [p4]; exact byF) H10.tab ht.size 0 2 (by omega) (by omega) (by omega) 1 (by omega)
  rw [← ptr10] at K10
  refine L.nil ?_
  refine J.seq ?_
  refine J.region ?_
  refine L.va rfl (X.move (by conv => lhs; whnf)) ?_
  refine L.call rfl en_10 rfl (K10) ?_
  rintro e w11 ⟨G11, v11, A11, c11, bs11, rfl, O11⟩
  refine ⟨_, rfl, ?_⟩
  have B11 := B10.trans (p1.below O11.kq)
  have r11 := O11.rec_
  rw [p4, recF] at r11
  obtain ⟨b, rfl, hbl⟩ := one_of_map r11
  have hrow := Reads.of_own O11.row
  have hel := own_reads (O11.els b (by simp))
  obtain ⟨bA, bc, bl⟩ := b
  dsimp only at hbl
  subst hbl
  rw [show ([Bo.mk bA bc [97]] : List Bo).length = 1 from rfl]
  have hA11 := hrow.some_ (show (0 : Nat) < 1 by decide)
  have ld : Ld w11 (pA A11 0) (.slice bA 1 bc) := Ld.rd hrow (j := 0) (show (0 : Nat) < 1 by decide)
  refine L.va rfl (X.move (by conv => lhs; whnf)) ?_
  refine L.va rfl (X.extract rfl rfl) ?_
  refine L.va rfl (X.extract rfl rfl) ?_
  refine L.va rfl (X.extract rfl rfl) ?_
  refine L.va rfl (X.assign (by conv => lhs; whnf)) ?_
  refine L.va rfl (X.assign (by conv => lhs; whnf)) ?_
  refine L.va rfl (X.assign (by conv => lhs; whnf)) ?_
  refine L.nil ?_
  refine J.seq ?_
  refine J.region ?_
  refine L.va rfl (X.move (by conv => lhs; whnf)) ?_
  refine L.va rfl (X.eql rfl rfl) ?_
  refine L.va rfl (X.move (by conv => lhs; whnf)) ?_
  refine L.caseDecT (k := 45) rfl (by rfl) ?_
  refine L.va rfl (X.move (by conv => lhs; whnf)) ?_
  refine L.va rfl (X.eql rfl rfl) ?_
  refine L.va rfl (X.pickT rfl (by conv => lhs; whnf)) ?_
  refine L.va rfl (X.move (by conv => lhs; whnf)) ?_
  refine L.caseDecT (k := 49) rfl (by rfl) ?_
  refine L.va rfl (X.move (by conv => lhs; whnf)) ?_
  refine L.va rfl (X.eql rfl rfl) ?_
  refine L.va rfl (X.pickT rfl (by conv => lhs; whnf)) ?_
  refine L.va rfl (X.move (by conv => lhs; whnf)) ?_
  refine L.caseDecT (k := 53) rfl (by rfl) ?_
  refine L.va rfl (X.move (by conv => lhs; whnf)) ?_
  refine L.va rfl (X.eql rfl rfl) ?_
  refine L.va rfl (X.pickT rfl (by conv => lhs; whnf)) ?_
  refine L.va rfl (X.move (by conv => lhs; whnf)) ?_
  refine L.caseDecT (k := 57) rfl (by rfl) ?_
  refine L.va rfl (X.move (by conv => lhs; whnf)) ?_
  refine L.va rfl (X.eql rfl rfl) ?_
  refine L.va rfl (X.pickT rfl (by conv => lhs; whnf)) ?_
  refine L.va rfl (X.move (by conv => lhs; whnf)) ?_
  refine L.caseDecT (k := 61) rfl (by rfl) ?_
  refine L.va rfl (X.move (by conv => lhs; whnf)) ?_
  refine L.va rfl (X.len rfl Tryd.underlying30) ?_
  refine L.va rfl (X.eql rfl rfl) ?_
  refine L.va rfl (X.pickT rfl (by conv => lhs; whnf)) ?_
  refine L.va rfl (X.move (by conv => lhs; whnf)) ?_
  refine L.caseDecT (k := 66) rfl (by rfl) ?_
  refine L.va rfl (X.move (by conv => lhs; whnf)) ?_
  refine L.va rfl (X.index1n (j := 0) rfl rfl Tryd.underlying30 sz_39 (by first | exact Option.some_ne_none _ | exact hA11 | exact ld) (by omega)) ?_
  refine L.va rfl (X.load rfl sc_39 (by first | exact hA11 | exact ld)) ?_
  refine L.va rfl (X.conv rfl (hel.conv Tryd.underlying39 Tryd.underlying5 Tryd.underlying9)) ?_
  refine L.va rfl (X.eqlS rfl rfl) ?_
  refine L.va rfl (X.pickT rfl (by conv => lhs; whnf)) ?_
  refine L.va rfl (X.move (by conv => lhs; whnf)) ?_
  refine L.caseDecT (k := 73) rfl (by rfl) ?_
  refine L.va rfl (X.move (by conv => lhs; whnf)) ?_
  refine L.va rfl (X.eql rfl rfl) ?_
  refine L.va rfl (X.pickT rfl (by conv => lhs; whnf)) ?_
  refine L.va rfl (X.assign (by conv => lhs; whnf)) ?_
  refine L.nil ?_
  refine J.ret ?_
  refine fin1 ?_
  exact ⟨rfl, B11⟩
end Go.Proofs.YtjdimgigbgafbaaDoor
namespace Go.Proofs.YtjdimgigbgafbaaDoor
set_option maxRecDepth 100000
open Go.RowKit H
set_option linter.unusedVariables false
namespace H
theorem Ld.flat {X : Type} {f : X → List Value} {sz B n : Nat} {A : Option Addr} {w : World} {l : List X} (hf : ∀ x, (f x).length = sz) (h : Reads w B sz A n (l.flatMap f)) {i : Nat} {x : X} (hi : l[i]? = some x) {r : Nat} {u : Value} (hu : (f x)[r]? = some u) : Ld w (pA A (i * sz + r)) u := by
  have h2 := flat_row hf hi r u hu
  have hj : i * sz + r < n * sz := by rw [← h.1]; exact (List.getElem?_eq_some_iff.1 h2).1
  have h1 := Ld.rd h hj
  rw [List.getD, h2] at h1
  exact h1
end H
structure DmsAt (xs : List Dm) (A : Option Addr) (n N : Nat) (w : World) : Prop where
  hr : Reads w N 5 A n (xs.flatMap Dm.vals)
  hx : ∀ x ∈ xs, x.At N w
  hn : xs.length = n
theorem DmsAt.low {xs : List Dm} {A : Option Addr} {n N : Nat} {w w' : World} (h : DmsAt xs A n N w) (hb : Below N w w') : DmsAt xs A n N w' := ⟨h.hr.low hb (Nat.le_refl _), fun x hx => (h.hx x hx).low hb, h.hn⟩
theorem DmsAt.row {xs : List Dm} {A : Option Addr} {n N : Nat} {w : World} (h : DmsAt xs A n N w) {i : Nat} (hi : i < n) : ∃ x, xs[i]? = some x ∧ x ∈ xs ∧ x.At N w := by
  have hlt : i < xs.length := by rw [h.hn]; exact hi
  exact ⟨xs[i], List.getElem?_eq_getElem hlt, List.getElem_mem hlt, h.hx _ (List.getElem_mem hlt)⟩
namespace Dk
variable {v : Dk} {N N0 : Nat} {C : Nat → Prop} {w w' : World} {r : Rk}
end Dk
end Go.Proofs.YtjdimgigbgafbaaDoor
namespace Go.Proofs.YtjdimgigbgafbaaDoor
set_option maxRecDepth 100000
open Go.RowKit H
set_option linter.unusedVariables false
namespace Dk
variable {v : Dk} {N N0 : Nat} {C : Nat → Prop} {w w' : World} {r : Rk}
theorem _root_.Go.Proofs.YtjdimgigbgafbaaDoor.Kq.grw {kb d g : Nat} {w'' : World} (k : Kq kb d C w w') (hg : w'.grownBy w'' (some g)) (h : w.heap.size ≤ g) : Kq kb d C w w'' :=
  ⟨hg.os.trans k.os, hg.tape.trans k.tape, hg.output.trans k.output, Nat.le_trans k.size hg.size, fun j hj h1 h2 h3 => (hg.block j (Nat.lt_of_lt_of_le hj k.size) (fun e => by injection e with e; omega)).trans (k.block j hj h1 h2 h3)⟩
theorem At.blk_ {g t : Nat} {cs : Array Value} (h : v.At N C w) (hb : Blk w g t cs) (hg : w.grownBy w' (some g)) (h1 : t ≠ 39) (h2 : t ≠ 105) (h3 : t ≠ 107) (h4 : t ≠ 5) : v.At N C w' :=
  have hd : ∀ x zs, Dat w x zs → Dat w' x zs := fun x zs hx => hx.grown hg (fun g' hg' ht => by injection hg' with hg'; subst hg'; exact h4 (hb.isT.fun_ ht))
  ⟨h.hb.grown hg (fun e => by injection e with e; subst e; exact h2 (hb.isT.fun_ h.dT)), h.hk.kept hg (.inr (own_blk_ne h.hk hb (fun e => h1 e.symm))), h.hp.kept hg (.inr (own_blk_ne h.hp hb (fun e => h3 e.symm))), h.hC, fun g hg' => Nat.lt_of_lt_of_le (h.hL g hg') hg.size, h.hCN, fun x hx => hd _ _ (h.kd x hx), fun x hx => ⟨(h.pd x hx).1, hd _ _ (h.pd x hx).2⟩, h.hN, h.h1, h.hl⟩
structure Pl (v v' : Dk) (N N0 : Nat) (C : Nat → Prop) (r' : Rk) (m : Nat) (w w' : World) : Prop where
  hv : v'.At N C w'
  hd : v'.d = v.d
  hkb : v'.kb = v.kb
  hk : Kq v.kb v.d C w w'
  hr : r'.At N0 w'
  hne : r'.K.ownBlock ≠ some v.kb
  hab : v'.abs = r'.abs
  hok : r'.abs.Ok m
end Dk
end Go.Proofs.YtjdimgigbgafbaaDoor
namespace Go.Proofs.YtjdimgigbgafbaaDoor
set_option maxRecDepth 100000
open Go.RowKit H
set_option linter.unusedVariables false
structure RMk (w w' : World) (b2 b3 i : Nat) (A : Option Addr) (c : Nat) (kp : List Cell) (F : Nat → List Int) : Prop where
  h2 : Blk w' b2 33 #[.slice none 0 0, .slice none 0 0, .bool false, .int .i64 0, .int .i64 0, .int .i64 0, .int .i64 0]
  h3 : Blk w' b3 33 #[.slice A i c, .slice none 0 0, .bool false, .int .i64 (-1), .int .i64 0, .int .i64 0, .int .i64 0]
  hk : w'.ownsRow w.heap.size 39 1 (.slice A i c) i (kp.map (·.1))
  kd : ∀ x ∈ kp, Dat w' x.1 x.2
  hz : kp.map (·.2) = (List.range i).map F
  hl : kp.length = i
  he : Ext w w'
  cp : ∀ x ∈ kp, Cap x.1
theorem rstep {w w2 w5 w6 w7 : World} {b2 b3 i : Nat} {A A6 : Option Addr} {c c4 c6 : Nat} {A4 : Option Addr} {kp : List Cell} {F : Nat → List Int} (M : RMk w w2 b2 b3 i A c kp F) (hb2 : w.heap.size ≤ b2) (hb3 : w.heap.size ≤ b3) (hne : b2 ≠ b3) (he : Ext w2 w5) (hD : Dat w5 (.slice A4 1024 c4) (F i)) (hcap : 1024 ≤ c4 ∧ c4 ≤ maxLen)
    (ho6 : w6.ownsRow w.heap.size 39 1 (.slice A6 (i + 1) c6) (i + 1) ((kp ++ [(Value.slice A4 1024 c4, F i)]).map (·.1))) (hg6 : w5.grownBy w6 (Value.ownBlock (.slice A i c)))
    (hb36 : Blk w6 b3 33 #[.slice A i c, .slice none 0 0, .bool false, .int .i64 (-1), .int .i64 0, .int .i64 0, .int .i64 0]) (hg7 : w6.grownBy w7 (some b3)) (hb37 : Blk w7 b3 33 #[.slice A6 (i + 1) c6, .slice none 0 0, .bool false, .int .i64 (-1), .int .i64 0, .int .i64 0, .int .i64 0]) :
    RMk w w7 b2 b3 (i + 1) A6 c6 (kp ++ [(Value.slice A4 1024 c4, F i)]) F := by
  have hp5 := M.hk.ext he
  have hnk : ∀ g, (Value.slice A i c).ownBlock = some g → ¬ IsT w5 g 5 := fun g hg ht => absurd ((own_isT hp5 hg).1.fun_ ht) (by decide)
  have hnd : ∀ g, some b3 = some g → ¬ IsT w6 g 5 := fun g hg ht => by
    injection hg with hg
    subst hg
    exact absurd (hb36.isT.fun_ ht) (by decide)
  refine ⟨((M.h2.ext he).grown hg6 (fun e => own_blk_ne hp5 (M.h2.ext he) (by decide) e.symm)).grown hg7 (by intro e; injection e with e; exact hne e), hb37, ho6.kept hg7 (.inr (own_blk_ne ho6 hb36 (by decide))), fun x hx => ?_, ?_, ?_, ?_, fun x hx => ?_⟩
  · rcases List.mem_append.1 hx with hx | hx
    · exact (((M.kd x hx).ext he).grown hg6 hnk).grown hg7 hnd
    · obtain rfl : x = (Value.slice A4 1024 c4, F i) := by simpa using hx
      exact (hD.grown hg6 hnk).grown hg7 hnd
  · rw [List.map_append, M.hz, List.range_succ, List.map_append]
    rfl
  · rw [List.length_append, M.hl]
    rfl
  · exact ((M.he.trans he).grw hg6 (fun g hg => (own_isT hp5 hg).2)).grw hg7 (by intro g hg; injection hg with hg; omega)
  · rcases List.mem_append.1 hx with hx | hx
    · exact M.cp x hx
    · obtain rfl : x = (Value.slice A4 1024 c4, F i) := by simpa using hx
      exact ⟨A4, 1024, c4, rfl, hcap⟩
theorem rdone {w w2 w3 : World} {b2 b3 q : Nat} {A : Option Addr} {c : Nat} {kp : List Cell} {F : Nat → List Int} (M : RMk w w2 b2 b3 q A c kp F) (hb2 : w.heap.size ≤ b2) (hq : q ≤ 8192) (hg : w2.grownBy w3 (some b2)) {N0 : Nat} (hN0 : N0 ≤ w.heap.size) :
    ∃ r : Rk, r.v = .agg #[.slice A q c, .slice none 0 0, .bool false, .int .i64 (-1), .int .i64 0, .int .i64 0, .int .i64 0] ∧ r.At N0 w3 ∧ r.abs = ⟨(List.range q).map F, [], false, -1, 0, 0, 0⟩ ∧ Ext w w3 ∧ (∀ g, r.K.ownBlock = some g → w.heap.size ≤ g) ∧ ∀ x, r.Cl x → Cap x := by
  have he3 : Ext w w3 := M.he.grw hg (by intro g hg; injection hg with hg; omega)
  have hk3 := M.hk.kept hg (.inr (own_blk_ne M.hk M.h2 (by decide)))
  have hz3 := he3.le
  refine ⟨⟨A, c, none, 0, kp, [], false, -1, 0, 0, 0⟩, ?_, ⟨?_, own_nil _ _ _ _, fun x hx => .inl ((M.kd x hx).grown hg ?_), (fun x hx => by cases hx), ?_, by omega⟩, ?_, he3, ?_, ?_⟩
  · unfold Rk.v Rk.vals Rk.K
    dsimp only
    rw [M.hl]
    rfl
  · unfold Rk.K
    dsimp only
    rw [M.hl]
    exact hk3.mono hN0
  · intro g hg ht
    injection hg with hg
    subst hg
    exact absurd (M.h2.isT.fun_ ht) (by decide)
  · dsimp only
    rw [M.hl]
    exact hq
  · unfold Rk.abs abs_
    dsimp only
    rw [M.hz]
    rfl
  · intro g hg
    have hg' : Value.ownBlock (.slice A kp.length c) = some g := hg
    rw [M.hl] at hg'
    exact (hk3.lt g hg').1
  · rintro x (⟨y, hy, rfl⟩ | ⟨y, hy, _⟩)
    · exact M.cp y hy
    · cases hy
theorem refnewC {w : World} (q : Nat) (hq : q ≤ 8192) {N0 : Nat} (hN0 : N0 ≤ w.heap.size) : Calls Tryd.prog 9 #[.int .i64 (q : Int)] w fun e w' =>
    ∃ r : Rk, e = .returned r.v ∧ r.At N0 w' ∧ r.abs = ⟨(List.range q).map (fun _ => List.replicate 1024 0), [], false, -1, 0, 0, 0⟩ ∧ Ext w w' ∧ (∀ g, r.K.ownBlock = some g → w.heap.size ≤ g) ∧ ∀ x, r.Cl x → Cap x := by
  refine enter Tryd.func9 rfl (by kernel_rfl) ?_
  refine J.seq ?_
  refine J.region ?_
  refine L.alloc rfl zr_33 ?_
  intro b2 w1 hb2 hs1 hk2 he1
  refine L.nil ?_
  refine J.seq ?_
  refine J.region ?_
  refine L.va rfl (X.build (l := [_, _, _, _, _, _, _]) (Evs.cons (by conv => lhs; whnf) Evs.nil) (bld_run Tryd.underlying33 (bp_33 Tryd.underlying33) zr_33 rfl)) ?_
  refine L.alloc rfl zr_33 ?_
  intro b3 w2 hb3 hs2 hk3 he2
  refine L.storeAgg (vs := [_, _, _, _, _, _, _]) rfl rfl rfl rfl sz_33 (hk3) rfl ?_
  intro w3 hk33 hg3 hs3
  have hk23 := (hk2.ext he2).grown hg3 (by intro e; injection e with e; omega)
  have he3 : Ext w w3 := (he1.trans he2).grw hg3 (by intro g hg; injection hg with hg; omega)
  refine L.nil ?_
  refine J.seq ?_
  refine J.seq ?_
  refine J.region ?_
  refine L.va rfl (X.assign (by conv => lhs; whnf)) ?_
  refine L.nil ?_
  refine J.block ?_
  refine J.loop (X := Nat × Option Addr × Nat × List Cell) [4, 6, 7, 8, 9, 10, 11, 12, 13, 14, 15, 16] (fun x => [(4, .int .i64 (x.1 : Int))]) (fun x w' => x.1 ≤ q ∧ RMk w w' b2 b3 x.1 x.2.1 x.2.2.1 x.2.2.2 (fun _ => List.replicate 1024 0)) (fun x => q - x.1) ((0, none, 0, [])) (At1 (by first | rfl | exact at_int rfl (by omega) | exact at_slice rfl (by omega) | exact at_int rfl (by simp))) ?_ ?_
  · exact ⟨Nat.zero_le _, hk23, hk33, own_nil _ _ _ _, (fun x hx => by cases hx), rfl, rfl, he3, (fun x hx => by cases hx)⟩
  · rintro ⟨i, A, c, kp⟩ g w4 ⟨hi, M⟩
    dsimp only at hi M
    have q1 : ((i, A, c, kp) : Nat × Option Addr × Nat × List Cell).1 = i := rfl
    refine J.seq ?_
    refine J.seq ?_
    refine J.region ?_
    refine L.va rfl (X.move (by conv => lhs; whnf)) ?_
    refine L.va rfl (X.move (by conv => lhs; whnf)) ?_
    refine L.va rfl (X.lss rfl rfl) ?_
    refine L.nil ?_
    refine J.dec rfl (fun hlt => ?_) (fun hlt => ?_)
    · have hlt' : i < q := by dsimp only at hlt; omega
      refine J.skip ?_
      refine J.seq ?_
      refine J.block ?_
      refine J.draw (ℓ := 6) (S := (fun w' => Blk w' b3 33 #[.slice A i c, .slice none 0 0, .bool false, .int .i64 (-1), .int .i64 0, .int .i64 0, .int .i64 0])) mixed (fun w5 hSE hS_h => ?_)
      have hS : ((fun w' => Blk w' b3 33 #[.slice A i c, .slice none 0 0, .bool false, .int .i64 (-1), .int .i64 0, .int .i64 0, .int .i64 0])) w5 := M.h3.ext hSE
      refine D.va 0 rfl (by kernel_rfl) (fun _ _ _ h => h) rfl (fun w' hw => X.fieldAddr rfl Tryd.underlying33 rfl sz_30 (by decide)) hS ?_
      refine D.va 1 rfl (by kernel_rfl) (fun _ _ _ h => h) rfl (fun w' hw => X.load rfl sc_30 (Ld.blk hw rfl)) hS ?_
      refine D.one 2 (by kernel_rfl) rfl ?_
      refine L.make (q := 1024) (c := 1024) rfl rfl rfl Tryd.underlying39 el_5 (by omega) ?_
      intro b6 w6 hb6 hs6 hk6 he6
      have hS1 := hS.ext he6
      refine L.nil ?_
      refine ⟨fun _ => hS1, ?_⟩
      rw [made_nums] at hk6
      have hD6 : Dat w6 (.slice (some ⟨b6, 0, none⟩) 1024 1024) (List.replicate 1024 0) := Dat.of_own (base := 0) (by
        have := blk_own1 (base := 0) (q := 1024) hk6 (Nat.zero_le _) (by decide) (by simp [nums])
        exact this)
      refine D.one 3 (by kernel_rfl) rfl ?_
      refine L.bslice (vs := [_]) rfl (Evs.cons (by conv => lhs; whnf) Evs.nil) rfl rfl rfl rfl Tryd.underlying30 sz_39 zr_39 (by decide) ?_
      intro b7 w7 hb7 hs7 hk7 he7
      have hS2 := hS1.ext he7
      refine L.nil ?_
      refine ⟨fun _ => hS2, ?_⟩
      have he57 : Ext w4 w7 := (hSE.trans he6).trans he7
      have hp7 := M.hk.ext he57
      have hz7 := (M.he.trans he57).le
      have hne7 : some b3 ≠ Value.ownBlock (.slice A i c) := fun e => own_blk_ne hp7 hS2 (by decide) e.symm
      refine D.one 4 (by kernel_rfl) rfl ?_
      refine L.appendV (q := i + 1) (ys := (kp ++ [(Value.slice (some ⟨b6, 0, none⟩) 1024 1024, List.replicate 1024 0)]).map (fun p : Cell ↦ p.1)) rfl rfl rfl Tryd.underlying30 el_39 (hp7) (blk_readsN (sz := 1) (q := 1) (l := [.slice (some ⟨b6, 0, none⟩) 1024 1024]) hk7 (by omega : b7 < w7.heap.size) rfl) (by first | rfl | exact strs_ones _ | assumption) (by omega) (by simp) (by unfold maxLen; omega) (by omega) ?_
      intro A8 c8 w8 ho8 hg8 hb8 hor8
      have hS3 := hS2.grown hg8 hne7
      refine L.nil ?_
      refine ⟨fun _ => hS3, ?_⟩
      refine D.va 5 rfl (by kernel_rfl) (fun _ _ _ h => h) rfl (fun w' hw => X.fieldAddr rfl Tryd.underlying33 rfl sz_30 (by decide)) hS3 ?_
      refine D.one 6 (by kernel_rfl) rfl ?_
      refine L.store rfl rfl (by conv => lhs; whnf) rfl sz_30 (hS3) (by first | decide | exact Nat.le_of_ble_eq_true rfl) ?_
      intro w9 hk9 hg9 hs9
      refine L.nil ?_
      refine ⟨fun h => absurd rfl h, ?_⟩
      refine D.done (by kernel_rfl) ?_
      refine J.region ?_
      refine L.va rfl (X.move (by conv => lhs; whnf)) ?_
      refine L.va rfl (X.add rfl rfl (by omega)) ?_
      refine L.va rfl (X.assign (by conv => lhs; whnf)) ?_
      refine L.nil ?_
      refine ⟨(i + 1, A8, c8, kp ++ [(Value.slice (some ⟨b6, 0, none⟩) 1024 1024, List.replicate 1024 0)]), At1 (by first | rfl | exact at_int rfl (by omega) | exact at_slice rfl (by omega) | exact at_int rfl (by simp)), (by (iterate 12 refine Agr.lk rfl ?_); exact Agr.lk rfl (Agr.hav rfl Agr.rfl')), ?_⟩
      exact ⟨⟨by dsimp only; omega, rstep M (by omega) (by omega) (by omega) he57 (hD6.ext he7) (by decide) ho8 hg8 hS3 hg9 hk9⟩, by dsimp only; omega⟩
    · obtain rfl : i = q := by dsimp only at hlt; omega
      have hk4 := M.h3
      refine J.exit ?_
      refine J.seq ?_
      refine J.region ?_
      refine L.va rfl ((by first | exact X.loadAgg rfl (range_l hk4) Tryd.underlying33 rfl (by kernel_rfl) | exact X.loadAgg rfl (range_blk hk4) Tryd.underlying33 rfl (by kernel_rfl))) ?_
      refine L.storeAgg (vs := [_, _, _, _, _, _, _]) rfl rfl rfl rfl sz_33 (M.h2) rfl ?_
      intro w5 hk5 hg5 hs5
      refine L.nil ?_
      refine J.ret ?_
      obtain ⟨r, e, k1, k2, k3, k4, k5⟩ := rdone M (by omega) hq hg5 hN0
      refine finC rfl (run_cell hk5 Tryd.underlying33 rfl (by kernel_rfl)) ?_
      exact ⟨r, by rw [e], k1, k2, k3, k4, k5⟩
end Go.Proofs.YtjdimgigbgafbaaDoor
namespace Go.Proofs.YtjdimgigbgafbaaDoor
set_option maxRecDepth 100000
open Go.RowKit H
open Byts Fram
set_option linter.unusedVariables false
theorem rget09 (A : Option Addr) (n c : Nat) (zs : List Int) (w : World) (hr : Reads w w.heap.size 1 A n (nums .u8 zs)) (hz : ∀ z ∈ zs, 0 ≤ z ∧ z < 256) (hnc : n ≤ c) (hc0 : c ≤ 9223372036854775807) (hn : n ≤ 1000000) :
    Calls Tryd.prog 60 #[.slice A n c] w (FGetO zs w) := by
  have hl : zs.length = n := by have := hr.1; simpa [nums] using this
  refine enter Tryd.func60 rfl (by kernel_rfl) ?_
  refine J.seq ?_
  refine J.region ?_
  refine L.va rfl (X.assign (by conv => lhs; whnf)) ?_
  refine L.va rfl (X.assign (by conv => lhs; whnf)) ?_
  refine L.va rfl (X.assign (by conv => lhs; whnf)) ?_
  refine L.nil ?_
  refine J.cut (X := Unit) [2, 3, 4, 8, 9, 10, 11, 12, 13, 14, 15, 16] (fun _ => []) (fun _ w' => (n = 0 ∨ zs.getD 0 0 = 181) ∧ w = w') ?_ ?_
  · refine J.seq ?_
    refine J.region ?_
    refine L.va rfl (X.move (by conv => lhs; whnf)) ?_
    refine L.va rfl (X.len rfl Tryd.underlying39) ?_
    refine L.va rfl (X.gtr rfl rfl) ?_
    refine L.va rfl (X.move (by conv => lhs; whnf)) ?_
    refine L.caseDec (k := 11) rfl (fun h0 => ?_) (fun h0 => ?_)
    · have hA := hr.some_ (by omega)
      refine L.va rfl (X.move (by conv => lhs; whnf)) ?_
      refine L.va rfl (X.index1n (j := 0) rfl rfl Tryd.underlying39 sz_5 (by first | exact Option.some_ne_none _ | exact hr.some_ (by omega) | exact hA) (by omega)) ?_
      refine L.va rfl (X.load rfl sc_5 (by first | exact Ld.num hr (by omega) | exact hA)) ?_
      refine L.va rfl (X.neq rfl rfl) ?_
      refine L.va rfl (X.pickT rfl (by conv => lhs; whnf)) ?_
      refine L.nil ?_
      refine J.ndec rfl (fun h1 => ?_) (fun h1 => ?_)
      · refine J.seq ?_
        refine J.region ?_
        refine L.va rfl (X.assign (by conv => lhs; whnf)) ?_
        refine L.va rfl (X.assign (by conv => lhs; whnf)) ?_
        refine L.va rfl (X.assign (by conv => lhs; whnf)) ?_
        refine L.nil ?_
        refine J.ret ?_
        refine thn_ret <| ?_
        refine fin3 ?_
        have he : gE smZ zs = 6 := by
          unfold gE
          rw [if_pos ⟨by omega, h1⟩]
        exact FGet_bad (c := 6) (by decide) he (Below.refl _ _)
      · skip
        refine J.skip ?_
        refine ⟨(), At0 , (by (iterate 10 refine Agr.lk rfl ?_); exact Agr.rfl'), ?_⟩
        exact ⟨.inr h1, rfl⟩
    · refine L.no rfl ?_
      refine L.no rfl ?_
      refine L.no rfl ?_
      refine L.no rfl ?_
      refine L.va rfl (X.pickF rfl (by conv => lhs; whnf)) ?_
      refine L.nil ?_
      refine J.iteF rfl ?_
      refine J.skip ?_
      refine ⟨(), At0 , (by (iterate 10 refine Agr.lk rfl ?_); exact Agr.rfl'), ?_⟩
      exact ⟨.inl (by omega), rfl⟩
  · rintro _ g w2 ⟨h1, rfl⟩
    have hne : ¬ (zs.length ≠ 0 ∧ zs.getD 0 0 ≠ 181) := fun h => by
      rcases h1 with h2 | h2
      · exact h.1 (by omega)
      · exact h.2 h2
    refine J.seq ?_
    refine J.region ?_
    refine L.va rfl (X.assign (by conv => lhs; whnf)) ?_
    refine L.nil ?_
    refine J.cut (X := Unit) [5, 6, 17, 18, 19, 20, 21, 22, 23, 24, 25, 26, 27, 28, 29, 30, 31, 32, 33] (fun _ => [(5, .int .i64 (nZ zs))]) (fun _ w' => w = w') ?_ ?_
    · refine J.seq ?_
      refine J.region ?_
      refine L.va rfl (X.assign (by conv => lhs; whnf)) ?_
      refine L.nil ?_
      refine J.block ?_
      refine J.loop (X := Nat) [5, 6, 17, 18, 19, 20, 21, 22, 23, 24, 25, 26, 27, 28, 29, 30, 31, 32, 33] (fun i => [(6, .int .i64 (i : Int)), (5, .int .i64 (pz zs i))]) (fun i w' => 1 ≤ i ∧ i ≤ 4 ∧ w = w') (fun i => 4 - i) (1) (At2 (by first | rfl | exact at_int rfl (by omega) | exact at_slice rfl (by omega) | exact at_int rfl (by simp)) (by first | rfl | exact at_int rfl (by omega) | exact at_slice rfl (by omega) | exact at_int rfl (by simp))) ?_ ?_
      · exact ⟨Nat.le_refl _, by omega, rfl⟩
      · rintro i g w3 ⟨hi1, hi4, rfl⟩
        refine J.seq ?_
        refine J.seq ?_
        refine J.region ?_
        refine L.va rfl (X.move (by conv => lhs; whnf)) ?_
        refine L.va rfl (X.lss rfl rfl) ?_
        refine L.nil ?_
        refine J.dec rfl (fun hlt => ?_) (fun hlt => ?_)
        · have hb := pz_bd zs hz i (by omega)
          have hg := getD_nn hz i
          have hs := pz_succ zs i hi1 (by omega)
          refine J.skip ?_
          refine J.seq ?_
          refine J.block ?_
          refine J.seq ?_
          refine J.region ?_
          refine L.va rfl (X.move (by conv => lhs; whnf)) ?_
          refine L.va rfl (X.mul rfl rfl (by omega)) ?_
          refine L.va rfl (X.assign (by conv => lhs; whnf)) ?_
          refine L.nil ?_
          refine J.seq ?_
          refine J.region ?_
          refine L.va rfl (X.move (by conv => lhs; whnf)) ?_
          refine L.va rfl (X.move (by conv => lhs; whnf)) ?_
          refine L.va rfl (X.len rfl Tryd.underlying39) ?_
          refine L.va rfl (X.lss rfl rfl) ?_
          refine L.nil ?_
          refine J.dec rfl (fun hin => ?_) (fun hin => ?_)
          · have hA := hr.some_ (by omega)
            refine J.region ?_
            refine L.va rfl (X.move (by conv => lhs; whnf)) ?_
            refine L.va rfl (X.move (by conv => lhs; whnf)) ?_
            refine L.va rfl (X.move (by conv => lhs; whnf)) ?_
            refine L.va rfl ((by first | exact X.index1n rfl rfl Tryd.underlying39 sz_5 (by first | exact Option.some_ne_none _ | exact hr.some_ (by omega) | exact hA) (by omega) | exact X.index1 rfl rfl Tryd.underlying39 sz_5 (by first | exact Option.some_ne_none _ | exact hr.some_ (by omega) | exact hA) (by omega))) ?_
            refine L.va rfl (X.load rfl sc_5 (by first | exact Ld.num hr (by omega) | exact hA)) ?_
            refine L.va rfl ((by first | exact X.convI rfl is_5 Tryd.underlying3 (by omega) | exact X.convw rfl is_5 Tryd.underlying3)) ?_
            refine L.va rfl (X.add rfl rfl (by omega)) ?_
            refine L.va rfl (X.assign (by conv => lhs; whnf)) ?_
            refine L.nil ?_
            refine J.region ?_
            refine L.va rfl (X.move (by conv => lhs; whnf)) ?_
            refine L.va rfl (X.add rfl rfl (by omega)) ?_
            refine L.va rfl (X.assign (by conv => lhs; whnf)) ?_
            refine L.nil ?_
            refine ⟨i + 1, At2 (rfl) (at_int rfl hs.symm), (by (iterate 20 refine Agr.lk rfl ?_); exact Agr.lk rfl (Agr.hav rfl Agr.rfl')), ?_⟩
            exact ⟨⟨by omega, by omega, rfl⟩, by omega⟩
          · have h0 : zs.getD i 0 = 0 := by rw [List.getD, List.getElem?_eq_none (by omega)]; rfl
            rw [h0] at hs
            refine J.skip ?_
            refine J.region ?_
            refine L.va rfl (X.move (by conv => lhs; whnf)) ?_
            refine L.va rfl (X.add rfl rfl (by omega)) ?_
            refine L.va rfl (X.assign (by conv => lhs; whnf)) ?_
            refine L.nil ?_
            refine ⟨i + 1, At2 (rfl) (at_int rfl (by omega)), (by (iterate 12 refine Agr.lk rfl ?_); exact Agr.lk rfl (Agr.hav rfl Agr.rfl')), ?_⟩
            exact ⟨⟨by omega, by omega, rfl⟩, by omega⟩
        · obtain rfl : i = 4 := by omega
          refine J.exit ?_
          refine ⟨(), At1 (by first | rfl | exact at_int rfl (by omega) | exact at_slice rfl (by omega) | exact at_int rfl (by simp)), (by (iterate 2 refine Agr.lk rfl ?_); refine Agr.lk rfl ?_; refine Agr.hav rfl ?_; (iterate 1 refine Agr.lk rfl ?_); exact Agr.rfl'), ?_⟩
          exact rfl
    · rintro _ g w3 rfl
      obtain ⟨x0, x1⟩ := nZ_nn hz
      obtain ⟨m, hm⟩ := Int.eq_ofNat_of_zero_le x0
      rw [hm] at x1 ⊢
      refine J.seq ?_
      refine J.seq ?_
      refine J.region ?_
      refine L.va rfl (X.move (by conv => lhs; whnf)) ?_
      refine L.va rfl (X.gtr rfl rfl) ?_
      refine L.nil ?_
      refine J.dec rfl (fun h2 => ?_) (fun h2 => ?_)
      · refine J.seq ?_
        refine J.region ?_
        refine L.va rfl (X.assign (by conv => lhs; whnf)) ?_
        refine L.va rfl (X.assign (by conv => lhs; whnf)) ?_
        refine L.va rfl (X.assign (by conv => lhs; whnf)) ?_
        refine L.nil ?_
        refine J.ret ?_
        refine thn_ret <| ?_
        refine fin3 ?_
        have he : gE smZ zs = 6 := by
          unfold gE
          rw [if_neg hne, if_pos (by omega)]
        exact FGet_bad (c := 6) (by decide) he (Below.refl _ _)
      · refine J.skip ?_
        refine J.seq ?_
        refine J.seq ?_
        refine J.region ?_
        refine L.va rfl (X.move (by conv => lhs; whnf)) ?_
        refine L.va rfl (X.len rfl Tryd.underlying39) ?_
        refine L.va rfl (X.move (by conv => lhs; whnf)) ?_
        refine L.va rfl (X.add rfl rfl (by omega)) ?_
        refine L.va rfl (X.lss rfl rfl) ?_
        refine L.nil ?_
        refine J.dec rfl (fun h3 => ?_) (fun h3 => ?_)
        · refine J.seq ?_
          refine J.region ?_
          refine L.va rfl (X.assign (by conv => lhs; whnf)) ?_
          refine L.va rfl (X.assign (by conv => lhs; whnf)) ?_
          refine L.va rfl (X.assign (by conv => lhs; whnf)) ?_
          refine L.nil ?_
          refine J.ret ?_
          refine thn_ret <| ?_
          refine fin3 ?_
          have he : gE smZ zs = 5 := by
            unfold gE
            rw [if_neg hne, if_neg (by omega), if_pos (by omega)]
          exact FGet_bad (c := 5) (by decide) he (Below.refl _ _)
        · have hE : gE smZ zs = if (zs.drop (4 + m)).take 4 ≠ smZ (zs.take (4 + m)) then 13 else 0 := by
            unfold gE
            rw [if_neg hne, if_neg (by omega), if_neg (by omega), hm, Int.toNat_natCast]
          have h181 : zs.getD 0 0 = 181 := by
            rcases h1 with h | h
            · omega
            · exact h
          have hfh := fhd_of zs hz h181 (by omega)
          rw [hm, Int.toNat_natCast] at hfh
          have hbl : ((zs.drop 4).take m).length = m := by rw [List.length_take, List.length_drop]; omega
          have hbz : ∀ z ∈ (zs.drop 4).take m, 0 ≤ z ∧ z < 256 := fun z h => hz z (List.mem_of_mem_drop (List.mem_of_mem_take h))
          have hr4 := part_nums hr (i := 4) (j := 4 + m) (by omega) (by omega) hnc
          rw [show 4 + m - 4 = m by omega] at hr4
          have hr8 : Reads w w.heap.size 1 A (8 + m) (nums .u8 (zs.take (8 + m))) := by have := hr.first (k := 8 + m) (by omega); simpa [nums] using this
          refine J.skip ?_
          refine J.seq ?_
          refine J.region ?_
          refine L.bslice (vs := []) rfl Evs.nil rfl rfl rfl rfl Tryd.underlying39 sz_5 zr_5 (by decide) ?_
          intro b1 w1 hb1 hs1 hk1 he1
          have ho1 : w1.ownsRow w.heap.size 5 1 (.slice (some ⟨b1, 0, none⟩) 0 0) 0 (nums .u8 []) := blk_own1 (q := 0) (l := []) hk1 (by omega) (Nat.zero_le _) rfl
          have z1 := he1.le
          refine L.va rfl (X.move (by conv => lhs; whnf)) ?_
          refine L.va rfl (X.move (by conv => lhs; whnf)) ?_
          refine L.va rfl (X.add rfl rfl (by omega)) ?_
          refine L.va rfl (X.slicen (i := 4) (j := 4 + m) rfl rfl rfl Tryd.underlying39 sz_5 (by omega)) ?_
          rw [show 4 + m - 4 = m by omega]
          refine L.appendQ (q := m) (ys := (zs.drop 4).take m) rfl rfl rfl Tryd.underlying39 el_5 (ho1) (hr4.ext he1) (by omega) (by simp) (by unfold maxLen; omega) (by omega) ?_
          intro A2 c2 w2 ho2 hg2 hb2 hor2
          have he2 : Ext w w2 := he1.grw hg2 (fun g hg => (ho1.lt g hg).1)
          refine L.va rfl (X.assign (by conv => lhs; whnf)) ?_
          refine L.nil ?_
          refine J.seq ?_
          refine J.seq ?_
          refine J.draw (ℓ := 1000000) (S := (fun w' => Ext w w')) mixed (fun wa hSE hS_h => ?_)
          have hS : ((fun w' => Ext w w')) wa := (he2.trans hSE)
          refine D.va 0 rfl (by kernel_rfl) (fun _ _ _ h => h) rfl (fun w' hw => X.move (by conv => lhs; whnf)) hS ?_
          refine D.va 3 rfl (by kernel_rfl) (fun _ _ _ h => h) rfl (fun w' hw => X.move (by conv => lhs; whnf)) hS ?_
          refine D.va 4 rfl (by kernel_rfl) (fun _ _ _ h => h) rfl (fun w' hw => X.move (by conv => lhs; whnf)) hS ?_
          refine D.va 5 rfl (by kernel_rfl) (fun _ _ _ h => h) rfl (fun w' hw => X.add rfl rfl (by omega)) hS ?_
          refine D.va 6 rfl (by kernel_rfl) (fun _ _ _ h => h) rfl (fun w' hw => (by first | exact X.sliceTon rfl rfl Tryd.underlying39 sz_5 (by omega) | exact X.sliceTo rfl rfl Tryd.underlying39 sz_5 (by omega))) hS ?_
          refine D.va 7 rfl (by kernel_rfl) (fun _ _ _ h => h) rfl (fun w' hw => X.conv rfl ((hr8.ext hw).conv Tryd.underlying39 Tryd.underlying5 Tryd.underlying9)) hS ?_
          refine D.one 1 (by kernel_rfl) rfl ?_
          refine L.call rfl en_48 rfl (frefput_any A2 m c2 ((zs.drop 4).take m) wa (by omega) (Reads.of_own (ho2.ext hSE)) hbz) ?_
          rintro e wb ⟨Ab, cb, rfl, hob, heb⟩
          refine ⟨_, rfl, ?_⟩
          have hS1 := Ext.trans hS heb
          refine L.nil ?_
          refine ⟨fun _ => hS1, ?_⟩
          refine D.one 2 (by kernel_rfl) rfl ?_
          refine L.va rfl (X.conv rfl ((own_reads hob).conv Tryd.underlying39 Tryd.underlying5 Tryd.underlying9)) ?_
          refine L.nil ?_
          refine ⟨fun _ => hS1, ?_⟩
          refine D.va 8 rfl (by kernel_rfl) (fun _ _ _ h => h) rfl (fun w' hw => X.neqS rfl rfl) hS1 ?_
          refine D.done (by kernel_rfl) ?_
          have key : frm smZ ((zs.drop 4).take m) = zs.take (8 + m) ↔ (zs.drop (4 + m)).take 4 = smZ (zs.take (4 + m)) := by
            have e8 : zs.take (8 + m) = zs.take (4 + m) ++ (zs.drop (4 + m)).take 4 := by rw [show 8 + m = (4 + m) + 4 by omega, List.take_add]
            unfold frm
            rw [hfh, e8, List.append_cancel_left_eq]
            exact ⟨fun h => h.symm, fun h => h.symm⟩
          refine J.ndec rfl (fun hn => ?_) (fun hn => ?_)
          · refine J.seq ?_
            refine J.region ?_
            refine L.va rfl (X.assign (by conv => lhs; whnf)) ?_
            refine L.va rfl (X.assign (by conv => lhs; whnf)) ?_
            refine L.va rfl (X.assign (by conv => lhs; whnf)) ?_
            refine L.nil ?_
            refine J.ret ?_
            refine thn_ret <| ?_
            refine fin3 ?_
            have he : gE smZ zs = 13 := by
              rw [hE, if_pos]
              intro h
              exact hn (by rw [key.2 h])
            exact FGet_bad (c := 13) (by decide) he (Ext.trans hS heb)
          · have he : gE smZ zs = 0 := by
              rw [hE, if_neg]
              exact fun h => h (key.1 (strOfNums_inj (frm_bytes _ hbz) (fun z h => hz z (List.mem_of_mem_take h)) (by rw [hn])))
            have eB : gB smZ zs = (zs.drop 4).take m := by unfold gB; rw [if_pos he, hm, Int.toNat_natCast]
            have eN : gN smZ zs = 8 + (m : Int) := by unfold gN; rw [if_pos he, hm]
            refine J.skip ?_
            refine J.seq ?_
            refine J.region ?_
            refine L.va rfl (X.move (by conv => lhs; whnf)) ?_
            refine L.va rfl (X.move (by conv => lhs; whnf)) ?_
            refine L.va rfl (X.add rfl rfl (by omega)) ?_
            refine L.va rfl (X.assign (by conv => lhs; whnf)) ?_
            refine L.va rfl (X.assign (by conv => lhs; whnf)) ?_
            refine L.va rfl (X.assign (by conv => lhs; whnf)) ?_
            refine L.nil ?_
            refine J.ret ?_
            refine fin3 ?_
            refine ⟨A2, c2, ?_, ?_, Ext.trans hS heb⟩
            · rw [eB, eN, he, hbl]
              rfl
            · rw [eB, hbl]
              exact (ho2.ext hSE).ext heb
theorem rall09 (A : Option Addr) (n c : Nat) (zs : List Int) (w : World) (hr : Reads w w.heap.size 1 A n (nums .u8 zs)) (hz : ∀ z ∈ zs, 0 ≤ z ∧ z < 256) (hnc : n ≤ c) (hc0 : c ≤ 9223372036854775807) (hn : n ≤ 1000000) :
    Calls Tryd.prog 43 #[.slice A n c] w fun e w' => ∃ Ao co bs p er, e = .returned (.tuple #[.slice Ao (bs : List Bo).length co, .int .i64 ((p : Nat) : Int), .int .i64 er]) ∧ allF zs 0 = (bs.map Bo.l, p, er) ∧
      w'.ownsRow w.heap.size 39 1 (.slice Ao bs.length co) bs.length (bs.map Bo.v) ∧ (∀ b ∈ bs, w'.ownsRow w.heap.size 5 1 b.v b.l.length (nums .u8 b.l)) ∧ Below w.heap.size w w' := by
  have hl : zs.length = n := by have := hr.1; simpa [nums] using this
  refine enter Tryd.func43 rfl (by kernel_rfl) ?_
  refine J.seq ?_
  refine J.region ?_
  refine L.va rfl (X.assign (by conv => lhs; whnf)) ?_
  refine L.va rfl (X.assign (by conv => lhs; whnf)) ?_
  refine L.va rfl (X.assign (by conv => lhs; whnf)) ?_
  refine L.nil ?_
  refine J.seq ?_
  refine J.region ?_
  refine L.va rfl (X.assign (by conv => lhs; whnf)) ?_
  refine L.nil ?_
  refine J.seq ?_
  refine J.region ?_
  refine L.va rfl (X.assign (by conv => lhs; whnf)) ?_
  refine L.nil ?_
  refine J.seq ?_
  refine J.block ?_
  refine J.loop (X := Nat × List Bo × Option Addr × Nat × Nat) [2, 3, 4, 5, 6, 7, 8, 9, 10, 11, 12, 13, 14, 15, 16, 17, 18, 19, 20, 21, 22, 23, 24, 25, 26, 27, 28, 29, 30, 31, 32, 33] (fun (p, bs, Ao, co, m) => [(6, .int .i64 (p : Int)), (5, .slice Ao m co)]) (fun (p, bs, Ao, co, m) w' => m = bs.length ∧ AllSt zs p (bs.map Bo.l) ∧ w'.ownsRow w.heap.size 39 1 (.slice Ao bs.length co) bs.length (bs.map Bo.v) ∧ (∀ b ∈ bs, w'.ownsRow w.heap.size 5 1 b.v b.l.length (nums .u8 b.l)) ∧ Ext w w') (fun (p, _) => n - p) ((0, [], none, 0, 0)) (At2 (by first | rfl | exact at_int rfl (by omega) | exact at_slice rfl (by omega) | exact at_int rfl (by simp)) (by first | rfl | exact at_int rfl (by omega) | exact at_slice rfl (by omega) | exact at_int rfl (by simp))) ?_ ?_
  · exact ⟨rfl, AllSt.start zs, own_nil _ _ _ _, fun b hb => by (cases hb), Ext.refl _⟩
  · rintro ⟨p, bs, Ao, co, m⟩ g w2 ⟨rfl, st, ho, hel, he2⟩
    have few := st.few
    have stl := st.le
    rw [List.length_map] at few
    refine J.seq ?_
    refine J.seq ?_
    refine J.region ?_
    refine L.va rfl (X.move (by conv => lhs; whnf)) ?_
    refine L.va rfl (X.move (by conv => lhs; whnf)) ?_
    refine L.va rfl (X.len rfl Tryd.underlying39) ?_
    refine L.va rfl (X.lss rfl rfl) ?_
    refine L.nil ?_
    refine J.dec rfl (fun hlt => ?_) (fun hlt => ?_)
    · have hlt : p < n := by omega
      have hr2 := (hr.ext he2)
      have z2 := he2.le
      have hr3 := part_nums hr2 (i := p) (j := n) (by omega) (Nat.le_refl _) hnc
      rw [List.take_of_length_le (by rw [List.length_drop]; omega)] at hr3
      refine J.skip ?_
      refine J.block ?_
      refine J.seq ?_
      refine J.region ?_
      refine L.va rfl (X.move (by conv => lhs; whnf)) ?_
      refine L.va rfl (X.move (by conv => lhs; whnf)) ?_
      refine L.va rfl ((by first | exact X.sliceFromn rfl rfl Tryd.underlying39 sz_5 (by omega) | exact X.sliceFrom rfl rfl Tryd.underlying39 sz_5 (by omega))) ?_
      refine L.call rfl en_60 rfl (rget09 _ (n - p) (c - p) (zs.drop p) w2 (hr3.more (by omega)) (fun z h ↦ hz z (List.mem_of_mem_drop h)) (by omega) (by omega) (by omega)) ?_
      rintro e w4 ⟨A4, c4, rfl, ho4, hb4⟩
      refine ⟨_, rfl, ?_⟩
      have he4 : Ext w w4 := he2.trans hb4
      have z4 := Ext.le hb4
      have ho' := ho.ext hb4
      refine L.va rfl (X.move (by conv => lhs; whnf)) ?_
      refine L.va rfl (X.extract rfl rfl) ?_
      refine L.va rfl (X.extract rfl rfl) ?_
      refine L.va rfl (X.extract rfl rfl) ?_
      refine L.va rfl (X.assign (by conv => lhs; whnf)) ?_
      refine L.va rfl (X.assign (by conv => lhs; whnf)) ?_
      refine L.va rfl (X.assign (by conv => lhs; whnf)) ?_
      refine L.nil ?_
      refine J.seq ?_
      refine J.seq ?_
      refine J.region ?_
      refine L.va rfl (X.move (by conv => lhs; whnf)) ?_
      refine L.va rfl (X.neq rfl rfl) ?_
      refine L.nil ?_
      refine J.ndec rfl (fun hbad => ?_) (fun hbad => ?_)
      · refine J.seq ?_
        refine J.region ?_
        refine L.va rfl (X.move (by conv => lhs; whnf)) ?_
        refine L.va rfl (X.move (by conv => lhs; whnf)) ?_
        refine L.va rfl (X.move (by conv => lhs; whnf)) ?_
        refine L.va rfl (X.assign (by conv => lhs; whnf)) ?_
        refine L.va rfl (X.assign (by conv => lhs; whnf)) ?_
        refine L.va rfl (X.assign (by conv => lhs; whnf)) ?_
        refine L.nil ?_
        refine J.ret ?_
        refine thn_ret <|  inB_ret <|  thn_ret <|  inB_ret <|  thn_ret <| ?_
        refine fin3 ?_
        exact ⟨Ao, co, bs, p, _, rfl, st.bad (by omega) hbad, ho', fun b hb => (hel b hb).ext hb4, he4⟩
      · obtain ⟨h8, hle, hst⟩ := gN_ok (fun z h => hz z (List.mem_of_mem_drop h)) hbad
        rw [List.length_drop] at hle
        rw [← hst]
        refine J.skip ?_
        refine J.seq ?_
        refine J.region ?_
        refine L.va rfl (X.move (by conv => lhs; whnf)) ?_
        refine L.va rfl (X.move (by conv => lhs; whnf)) ?_
        refine L.bslice (vs := [_]) rfl (Evs.cons (by conv => lhs; whnf) Evs.nil) rfl rfl rfl rfl Tryd.underlying30 sz_39 zr_39 (by decide) ?_
        intro b6 w6 hb6 hs6 kb6 he6
        have ho6 := ho'.ext he6
        have z6 := he6.le
        refine L.appendV (q := bs.length + 1) (ys := bs.map Bo.v ++ [.slice A4 (gB smZ (zs.drop p)).length c4]) rfl rfl rfl Tryd.underlying30 el_39 (ho6) ((blk_reads (q := 1) (l := [.slice A4 (gB smZ (zs.drop p)).length c4]) kb6 kb6.lt rfl)) (by first | rfl | exact strs_ones _ | assumption) (by omega) (by simp) (by unfold maxLen; omega) (by omega) ?_
        intro A7 c7 w7 ho7 hg7 hb7 hor7
        refine L.va rfl (X.assign (by conv => lhs; whnf)) ?_
        refine L.nil ?_
        refine J.region ?_
        refine L.va rfl (X.move (by conv => lhs; whnf)) ?_
        refine L.va rfl (X.move (by conv => lhs; whnf)) ?_
        refine L.va rfl (X.add rfl rfl (by omega)) ?_
        refine L.va rfl (X.assign (by conv => lhs; whnf)) ?_
        refine L.nil ?_
        refine ⟨(p + gStep (zs.drop p), bs ++ [⟨A4, c4, gB smZ (zs.drop p)⟩], A7, c7, bs.length + 1), At2 (by first | rfl | exact at_int rfl (by omega) | exact at_slice rfl (by omega) | exact at_int rfl (by simp)) (by first | rfl | exact at_int rfl (by omega) | exact at_slice rfl (by omega) | exact at_int rfl (by simp)), (by (iterate 26 refine Agr.lk rfl ?_); exact Agr.lk rfl (Agr.hav rfl Agr.rfl')), ?_⟩
        have hC : Chg (fun g => Value.ownBlock (.slice Ao bs.length co) = some g) w6 w7 := Chg.of_grown hg7 fun g e => e
        have hkeep : ∀ b : Bo, w6.ownsRow w.heap.size 5 1 b.v b.l.length (nums .u8 b.l) → w7.ownsRow w.heap.size 5 1 b.v b.l.length (nums .u8 b.l) := fun b hb => hC.own hb fun g hg hS => by
          obtain ⟨⟨cs, h5⟩, _⟩ := own_blk hb hg
          obtain ⟨⟨cs', h6⟩, _⟩ := own_blk ho6 hS
          exact absurd (blk_one h5 h6) (by decide)
        refine ⟨⟨by simp, ?_, ?_, fun b hb => ?_, (he4.trans he6).grw hg7 (fun g hg => (ho6.lt g hg).1)⟩, by show n - (p + gStep (zs.drop p)) < n - p; omega⟩
        · rw [List.map_append, List.map_cons, List.map_nil]
          exact st.next hz (by omega) hbad
        · rw [List.length_append, List.map_append]
          exact ho7
        · rcases List.mem_append.1 hb with h | h
          · exact hkeep b (((hel b h).ext hb4).ext he6)
          · rw [List.mem_singleton] at h
            rw [h]
            exact hkeep ⟨A4, c4, gB smZ (zs.drop p)⟩ ((own_low ho4 (by omega)).ext he6)
    · refine J.exit ?_
      refine J.seq ?_
      refine J.region ?_
      refine L.va rfl (X.move (by conv => lhs; whnf)) ?_
      refine L.va rfl (X.move (by conv => lhs; whnf)) ?_
      refine L.va rfl (X.assign (by conv => lhs; whnf)) ?_
      refine L.va rfl (X.assign (by conv => lhs; whnf)) ?_
      refine L.va rfl (X.assign (by conv => lhs; whnf)) ?_
      refine L.nil ?_
      refine J.ret ?_
      refine fin3 ?_
      exact ⟨Ao, co, bs, p, 0, rfl, st.done (by omega), ho, hel, he2⟩
end Go.Proofs.YtjdimgigbgafbaaDoor
namespace Go.Proofs.YtjdimgigbgafbaaDoor
set_option maxRecDepth 100000
open Go.RowKit H
open Lo Byts Seal Fram
set_option linter.unusedVariables false
structure Rl where
  (sA : Option Addr) (sc : Nat) (tA : Option Addr) (tc : Nat) (st : Ls)
namespace Rl
abbrev ss (R : Rl) : Value := .slice R.sA R.st.sm.length R.sc
abbrev ts (R : Rl) : Value := .slice R.tA R.st.tm.length R.tc
abbrev vals (R : Rl) : List Value := [.int .i64 (R.st.fr : Int), .int .i64 (R.st.ct : Int), .int .u64 R.st.ep, .int .u64 R.st.nx, R.ss, R.ts, .int .i64 R.st.bad]
abbrev v (R : Rl) : Value := .agg R.vals.toArray
structure At (R : Rl) (N : Nat) (w : World) : Prop where
  hs : w.ownsRow N 5 1 R.ss R.st.sm.length (nums .u8 R.st.sm)
  ht : w.ownsRow N 35 1 R.ts R.st.tm.length (nums .u64 R.st.tm)
theorem At.ext {R : Rl} {N : Nat} {w w' : World} (h : R.At N w) (he : Ext w w') : R.At N w' := ⟨h.hs.ext he, h.ht.ext he⟩
theorem At.lower {R : Rl} {N M : Nat} {w : World} (h : R.At N w) (hM : M ≤ N) : R.At M w := ⟨h.hs.mono hM, h.ht.mono hM⟩
structure Gr (R R' : Rl) (n : Nat) : Prop where
  s : ∀ g, R'.ss.ownBlock = some g → R.ss.ownBlock = some g ∨ n ≤ g
  t : ∀ g, R'.ts.ownBlock = some g → R.ts.ownBlock = some g ∨ n ≤ g
theorem Gr.refl (R : Rl) (n : Nat) : Gr R R n := ⟨fun g h => .inl h, fun g h => .inl h⟩
theorem Gr.new {R R' : Rl} {n : Nat} {w : World} (h : R'.At n w) : Gr R R' n := ⟨fun g hg => .inr (own_isT h.hs hg).2, fun g hg => .inr (own_isT h.ht hg).2⟩
end Rl
theorem high22 (n : Nat) (x : Int) (w : World) (hx : 0 ≤ x) (hx1 : x ≤ 18446744073709551615) (hn : n ≤ 8) :
    Calls Tryd.prog 42 #[.int .u64 x, .int .i64 (n : Int)] w fun e w' => ∃ A c, e = .returned (.slice A n c) ∧ w'.ownsRow w.heap.size 5 1 (.slice A n c) n (nums .u8 (be n x)) ∧ Ext w w' := by
  refine enter Tryd.func42 rfl (by kernel_rfl) ?_
  refine J.seq ?_
  refine J.region ?_
  refine L.va rfl (X.assign (by conv => lhs; whnf)) ?_
  refine L.nil ?_
  refine J.seq ?_
  refine J.region ?_
  refine L.va rfl (X.move (by conv => lhs; whnf)) ?_
  refine L.make (q := n) (c := n) rfl rfl rfl Tryd.underlying39 el_5 (by omega) ?_
  intro b1 w1 hb1 hs1 hk1 he1
  rw [made_nums] at hk1
  have ho1 : w1.ownsRow w.heap.size 5 1 (.slice (some ⟨b1, 0, none⟩) n n) n (nums .u8 (fill n 0 x)) := by
    rw [fill_zero]
    exact blk_own1 hk1 (by omega) (by unfold maxLen; omega) (by simp [nums])
  refine L.va rfl (X.assign (by conv => lhs; whnf)) ?_
  refine L.nil ?_
  refine J.seq ?_
  refine J.seq ?_
  refine J.region ?_
  refine L.va rfl (X.move (by conv => lhs; whnf)) ?_
  refine L.va rfl (X.sub rfl rfl (by omega)) ?_
  refine L.va rfl (X.assign (by conv => lhs; whnf)) ?_
  refine L.nil ?_
  refine J.block ?_
  refine J.loop (X := Nat) [0, 6, 11, 12, 13, 14, 15, 16, 17, 18, 19, 20, 21, 22] (fun k => [(6, .int .i64 ((n : Int) - 1 - (k : Int))), (0, .int .u64 (x / 256 ^ k))]) (fun k w' => k ≤ n ∧ w'.ownsRow w.heap.size 5 1 (.slice (some ⟨b1, 0, none⟩) n n) n (nums .u8 (fill n k x)) ∧ Ext w w') (fun k => n - k) (0) (At2 (by first | rfl | exact at_int rfl (by omega) | exact at_slice rfl (by omega) | exact at_int rfl (by simp)) (by first | rfl | exact at_int rfl (by omega) | exact at_slice rfl (by omega) | exact at_int rfl (by simp))) ?_ ?_
  · exact ⟨Nat.zero_le _, ho1, he1⟩
  · rintro k g w2 ⟨hk, ho2, he2⟩
    have y0 : 0 ≤ x / 256 ^ k := Int.ediv_nonneg hx (Int.pow_nonneg (by decide))
    have y1 : x / 256 ^ k ≤ 18446744073709551615 := Int.le_trans (Int.ediv_le_self _ hx) hx1
    refine J.seq ?_
    refine J.seq ?_
    refine J.region ?_
    refine L.va rfl (X.move (by conv => lhs; whnf)) ?_
    refine L.va rfl (X.geq rfl rfl) ?_
    refine L.nil ?_
    refine J.dec rfl (fun hge => ?_) (fun hge => ?_)
    · have hlt : k < n := by omega
      have hA := (Reads.of_own ho2).some_ (by omega)
      have hys : x / 256 ^ k / 256 = x / 256 ^ (k + 1) := by rw [Int.ediv_ediv_of_nonneg (Int.pow_nonneg (by decide)), Int.pow_succ]
      have i1 : ((n : Int) - 1 - (k : Int)).toNat = n - 1 - k := by omega
      refine J.skip ?_
      refine J.seq ?_
      refine J.block ?_
      refine J.seq ?_
      refine J.region ?_
      refine L.va rfl (X.move (by conv => lhs; whnf)) ?_
      refine L.va rfl (X.move (by conv => lhs; whnf)) ?_
      refine L.va rfl (X.move (by conv => lhs; whnf)) ?_
      refine L.va rfl (X.rem rfl rfl (by omega)) ?_
      refine L.va rfl ((by first | exact X.conv8 rfl is_35 Tryd.underlying5 (by omega) | exact X.convw rfl is_35 Tryd.underlying5)) ?_
      refine L.va rfl ((by first | exact X.index1n rfl rfl Tryd.underlying39 sz_5 (by first | exact Option.some_ne_none _ | exact hA) (by omega) | exact X.index1 rfl rfl Tryd.underlying39 sz_5 (by first | exact Option.some_ne_none _ | exact hA) (by omega))) ?_
      refine L.storeON rfl rfl (by conv => lhs; whnf) sz_5 (ho2) (by omega) ?_
      intro w3 ho3 hg3 hb3 hs3
      have ho3 : w3.ownsRow w.heap.size 5 1 (.slice (some ⟨b1, 0, none⟩) n n) n (nums .u8 ((fill n k x).set ((n : Int) - 1 - (k : Int)).toNat (x / 256 ^ k % 256))) := ho3
      rw [i1, Byts.fill_set n k x hlt] at ho3
      refine L.nil ?_
      refine J.region ?_
      refine L.va rfl (X.move (by conv => lhs; whnf)) ?_
      refine L.va rfl (X.quoU rfl rfl (by omega)) ?_
      refine L.va rfl (X.assign (by conv => lhs; whnf)) ?_
      refine L.nil ?_
      refine J.region ?_
      refine L.va rfl (X.move (by conv => lhs; whnf)) ?_
      refine L.va rfl (X.sub rfl rfl (by omega)) ?_
      refine L.va rfl (X.assign (by conv => lhs; whnf)) ?_
      refine L.nil ?_
      rw [hys]
      refine ⟨k + 1, At2 (by first | rfl | exact at_int rfl (by omega) | exact at_slice rfl (by omega) | exact at_int rfl (by simp)) (by first | rfl | exact at_int rfl (by omega) | exact at_slice rfl (by omega) | exact at_int rfl (by simp)), (by (iterate 14 refine Agr.lk rfl ?_); exact Agr.lk rfl (Agr.hav rfl Agr.rfl')), ?_⟩
      exact ⟨⟨by omega, ho3, he2.low hb3 (Nat.le_refl _)⟩, by omega⟩
    · obtain rfl : k = n := by omega
      rw [Byts.fill_all] at ho2
      refine J.exit ?_
      refine J.seq ?_
      refine J.region ?_
      refine L.va rfl (X.move (by conv => lhs; whnf)) ?_
      refine L.va rfl (X.assign (by conv => lhs; whnf)) ?_
      refine L.nil ?_
      refine J.ret ?_
      refine fin1 ?_
      exact ⟨_, _, rfl, ho2, he2⟩
theorem sheet22 (ep nx : Int) (i : Nat) (p : Int) (A : Option Addr) (n c : Nat) (zs : List Int) (w : World) (hr : Reads w w.heap.size 1 A n (nums .u8 zs)) (hn : n ≤ 1000000) (hi : i ≤ 65535) (hp : 0 ≤ p ∧ p ≤ 18446744073709551615) :
    Calls Tryd.prog 29 #[.int .u64 ep, .int .u64 nx, .int .i64 (i : Int), .int .u64 p, .slice A n c] w fun e w' => ∃ A' c', e = .returned (.agg #[.int .i64 1, .int .u64 ep, .int .u64 nx, .slice A' (shB i p zs).length c']) ∧ w'.ownsRow w.heap.size 5 1 (.slice A' (shB i p zs).length c') (shB i p zs).length (nums .u8 (shB i p zs)) ∧ Ext w w' := by
  have hzl : zs.length = n := by have := hr.1; simpa [nums] using this
  have el : (shB i p zs).length = 2 + 8 + n := by unfold shB; rw [List.length_append, List.length_append, be_length, be_length, hzl]; omega
  have es : (be 2 (i : Int) ++ be 8 p) ++ zs = shB i p zs := by unfold shB; rw [List.append_assoc]
  refine enter Tryd.func29 rfl (by kernel_rfl) ?_
  refine J.seq ?_
  refine J.region ?_
  refine L.alloc rfl zr_75 ?_
  intro b1 w1 hb1 hs1 hk1 he1
  refine L.nil ?_
  refine J.seq ?_
  refine J.region ?_
  refine L.va rfl (X.move (by conv => lhs; whnf)) ?_
  refine L.va rfl (X.move (by conv => lhs; whnf)) ?_
  refine L.va rfl (X.move (by conv => lhs; whnf)) ?_
  refine L.va rfl ((by first | exact X.convU rfl is_3 Tryd.underlying35 (by omega) | exact X.convw rfl is_3 Tryd.underlying35)) ?_
  refine L.call rfl en_42 rfl (high22 2 (i : Int) w1 (by omega) (by omega) (by omega)) ?_
  rintro e w2 ⟨A2, c2, rfl, ho2, he2⟩
  refine ⟨_, rfl, ?_⟩
  refine L.va rfl (X.move (by conv => lhs; whnf)) ?_
  refine L.call rfl en_42 rfl (high22 8 p w2 hp.1 hp.2 (by omega)) ?_
  rintro e w3 ⟨A3, c3, rfl, ho3, he3⟩
  refine ⟨_, rfl, ?_⟩
  have z1 := he1.le
  have z2 := he2.le
  have z23 := he3.le
  refine L.appendQ (q := 2 + 8) (ys := be 2 (i : Int) ++ be 8 p) rfl rfl rfl Tryd.underlying39 el_5 ((ho2.ext he3)) ((Reads.of_own ho3)) (by omega) (by simp) (by unfold maxLen; omega) (by omega) ?_
  intro A4 c4 w4 ho4 hg4 hb4 hor4
  have he14 : Ext w1 w4 := (he2.trans he3).low hb4 (Nat.le_refl _)
  have hr4 := (hr.ext (he1.trans he14)).more (he1.trans he14).le
  have z3 := he14.le
  refine L.va rfl (X.move (by conv => lhs; whnf)) ?_
  refine L.appendQ (q := 2 + 8 + n) (ys := (be 2 (i : Int) ++ be 8 p) ++ zs) rfl rfl rfl Tryd.underlying39 el_5 (ho4) (hr4) (by omega) (by simp) (by unfold maxLen; omega) (by omega) ?_
  intro A5 c5 w5 ho5 hg5 hb5 hor5
  have he15 : Ext w1 w5 := he14.low hb5 (Nat.le_refl _)
  have hk5 := hk1.ext he15
  rw [es] at ho5
  refine L.va rfl (X.build (l := [_, _, _, _]) (Evs.cons (by conv => lhs; whnf) (Evs.cons (by conv => lhs; whnf) (Evs.cons (by conv => lhs; whnf) (Evs.cons (by conv => lhs; whnf) Evs.nil)))) (bld_run Tryd.underlying75 (bp_75 Tryd.underlying75) zr_75 rfl)) ?_
  refine L.storeAgg (vs := [_, _, _, _]) rfl rfl rfl rfl sz_75 (hk5) rfl ?_
  intro w6 hk6 hg6 hs6
  refine L.nil ?_
  refine J.ret ?_
  refine finC rfl (run_cell hk6 Tryd.underlying75 rfl (by kernel_rfl)) ?_
  rw [el]
  exact ⟨A5, c5, rfl, (ho5.kept hg6 (.inr fun e => by have h1 := (own_isT ho5 e).2; have h2 := hk1.lt; omega)).mono z1, (he1.trans he15).grw hg6 (by intro g hg; injection hg with hg; omega)⟩
theorem cut22 (R : Rl) (u : Nat) (w : World) (hs : Reads w w.heap.size 1 R.sA R.st.sm.length (nums .u8 R.st.sm)) (hsc : R.st.sm.length ≤ R.sc) (ht : Reads w w.heap.size 1 R.tA R.st.tm.length (nums .u64 R.st.tm)) (htc : R.st.tm.length ≤ R.tc) (hu : u ≤ R.st.sm.length) (hq : (u + 990) / 991 ≤ R.st.tm.length) (hl : R.st.sm.length ≤ 9000000) :
    Calls Tryd.prog 44 #[R.v, .int .i64 (u : Int)] w fun e w' => ∃ R' : Rl, e = .returned R'.v ∧ R'.st = { R.st with sm := R.st.sm.take u, tm := R.st.tm.take ((u + 990) / 991) } ∧ R'.At w.heap.size w' ∧ Ext w w' := by
  obtain ⟨q, hqd⟩ : ∃ q, q = (u + 990) / 991 := ⟨_, rfl⟩
  rw [← hqd] at hq ⊢
  have hul : (R.st.sm.take u).length = u := by rw [List.length_take]; omega
  have hql : (R.st.tm.take q).length = q := by rw [List.length_take]; omega
  refine enter Tryd.func44 rfl (by kernel_rfl) ?_
  refine J.seq ?_
  refine J.region ?_
  refine L.boxA (l := [_, _, _, _, _, _, _]) rfl rfl ?_
  intro b1 w1 hb1 hs1 hk1 he1
  refine L.alloc rfl zr_42 ?_
  intro b2 w2 hb2 hs2 hk2 he2
  have hk12 : Blk w2 b1 42 R.vals.toArray := hk1.ext he2
  have he02 := he1.trans he2
  refine L.nil ?_
  refine J.seq ?_
  refine J.region ?_
  refine L.bslice (vs := []) rfl Evs.nil rfl rfl rfl rfl Tryd.underlying39 sz_5 zr_5 (by decide) ?_
  intro b3 w3 hb3 hs3 hk3 he3
  have ho3 : w3.ownsRow w2.heap.size 5 1 (.slice (some ⟨b3, 0, none⟩) 0 0) 0 (nums .u8 []) := blk_own1 (q := 0) hk3 (by omega) (by decide) rfl
  have he03 := he02.trans he3
  have hr3 := (hs.ext he03).more he03.le
  have hrp : Reads w3 w3.heap.size 1 R.sA u (nums .u8 (R.st.sm.take u)) := by
    have := (hr3.first (k := u) (by omega))
    simpa [nums] using this
  have hk13 := hk12.ext he3
  have z3 := he3.le
  refine L.va rfl (X.fieldAddr rfl Tryd.underlying42 rfl sz_39 (by decide)) ?_
  refine L.va rfl (X.load rfl sc_39 (by first | exact Ld.blk hk13 rfl)) ?_
  refine L.va rfl (X.move (by conv => lhs; whnf)) ?_
  refine L.va rfl ((by first | exact X.sliceTon rfl rfl Tryd.underlying39 sz_5 (by omega) | exact X.sliceTo rfl rfl Tryd.underlying39 sz_5 (by omega))) ?_
  refine L.appendQ (q := u) (ys := R.st.sm.take u) rfl rfl rfl Tryd.underlying39 el_5 (ho3) (hrp) (by omega) (by simp) (by unfold maxLen; omega) (by omega) ?_
  intro A4 c4 w4 ho4 hg4 hb4 hor4
  have he24 : Ext w2 w4 := he3.low hb4 (Nat.le_refl _)
  have hk14 := hk12.ext he24
  refine L.va rfl (X.fieldAddr rfl Tryd.underlying42 rfl sz_39 (by decide)) ?_
  refine L.store rfl rfl (by conv => lhs; whnf) rfl sz_39 (hk14) (by first | decide | exact Nat.le_of_ble_eq_true rfl) ?_
  intro w5 hk5 hg5 hs5
  have ho5 := ho4.kept hg5 (.inr fun e => by have h1 := (own_isT ho4 e).2; have h2 := hk1.lt; have h3 := he2.le; omega)
  have he05 : Ext w w5 := (he02.trans he24).grw hg5 (by intro g hg; injection hg with hg; omega)
  have hb2lt := hk2.lt
  have hk25 := (hk2.ext he24).grown hg5 (fun e => by injection e with e; omega)
  refine L.nil ?_
  refine J.seq ?_
  refine J.region ?_
  refine L.va rfl (X.assign (by conv => lhs; whnf)) ?_
  refine L.nil ?_
  refine J.seq ?_
  refine J.block ?_
  refine J.loop (X := Nat) [5, 13, 14, 15, 16, 17, 18] (fun k => [(5, .int .i64 (k : Int))]) (fun k w' => k ≤ q ∧ w' = w5) (fun k => q - k) (0) (At1 (by first | rfl | exact at_int rfl (by omega) | exact at_slice rfl (by omega) | exact at_int rfl (by simp))) ?_ ?_
  · exact ⟨Nat.zero_le _, rfl⟩
  · rintro k g w6 ⟨hk, rfl⟩
    refine J.seq ?_
    refine J.seq ?_
    refine J.region ?_
    refine L.va rfl (X.move (by conv => lhs; whnf)) ?_
    refine L.va rfl (X.mul rfl rfl (by omega)) ?_
    refine L.va rfl (X.move (by conv => lhs; whnf)) ?_
    refine L.va rfl (X.lss rfl rfl) ?_
    refine L.nil ?_
    refine J.dec rfl (fun hlt => ?_) (fun hlt => ?_)
    · refine J.skip ?_
      refine J.block ?_
      refine J.region ?_
      refine L.va rfl (X.move (by conv => lhs; whnf)) ?_
      refine L.va rfl (X.add rfl rfl (by omega)) ?_
      refine L.va rfl (X.assign (by conv => lhs; whnf)) ?_
      refine L.nil ?_
      refine ⟨k + 1, At1 (by first | rfl | exact at_int rfl (by omega) | exact at_slice rfl (by omega) | exact at_int rfl (by simp)), (by (iterate 7 refine Agr.lk rfl ?_); exact Agr.lk rfl (Agr.hav rfl Agr.rfl')), ?_⟩
      exact ⟨⟨by omega, rfl⟩, by omega⟩
    · obtain rfl : k = q := by omega
      have ht5 := (ht.ext he05).more he05.le
      refine J.exit ?_
      refine J.seq ?_
      refine J.region ?_
      refine L.bslice (vs := []) rfl Evs.nil rfl rfl rfl rfl Tryd.underlying40 sz_35 zr_35 (by decide) ?_
      intro b7 w7 hb7 hs7 hk7 he7
      have ho7 : w7.ownsRow w6.heap.size 35 1 (.slice (some ⟨b7, 0, none⟩) 0 0) 0 (nums .u64 []) := blk_own1 (q := 0) hk7 (by omega) (by decide) rfl
      have hr7 : Reads w7 w7.heap.size 1 R.tA k (nums .u64 (R.st.tm.take k)) := by
        have := ((ht5.ext he7).more he7.le).first (k := k) (by omega)
        simpa [nums] using this
      have hk57 := hk5.ext he7
      have z7 := he7.le
      refine L.va rfl (X.fieldAddr rfl Tryd.underlying42 rfl sz_40 (by decide)) ?_
      refine L.va rfl (X.load rfl sc_40 (by first | exact Ld.blk hk57 rfl)) ?_
      refine L.va rfl (X.move (by conv => lhs; whnf)) ?_
      refine L.va rfl ((by first | exact X.sliceTon rfl rfl Tryd.underlying40 sz_35 (by omega) | exact X.sliceTo rfl rfl Tryd.underlying40 sz_35 (by omega))) ?_
      refine L.appendQ (q := k) (ys := R.st.tm.take k) rfl rfl rfl Tryd.underlying40 el_35 (ho7) (hr7) (by omega) (by simp) (by unfold maxLen; omega) (by omega) ?_
      intro A8 c8 w8 ho8 hg8 hb8 hor8
      have he68 : Ext w6 w8 := he7.low hb8 (Nat.le_refl _)
      have hk58 := hk5.ext he68
      refine L.va rfl (X.fieldAddr rfl Tryd.underlying42 rfl sz_40 (by decide)) ?_
      refine L.store rfl rfl (by conv => lhs; whnf) rfl sz_40 (hk58) (by first | decide | exact Nat.le_of_ble_eq_true rfl) ?_
      intro w9 hk9 hg9 hs9
      have z05 := he05.le
      have ho9 := ho8.kept hg9 (.inr fun e => by have h1 := (own_isT ho8 e).2; have h2 := hk14.lt; have h3 := hg5.size; omega)
      have ho59 := (ho5.ext he68).kept hg9 (.inr fun e => by have h1 := (own_isT ho5 e).2; have h2 := hk1.lt; have h3 := he2.le; omega)
      have he09 : Ext w w9 := (he05.trans he68).grw hg9 (by intro g hg; injection hg with hg; omega)
      have hk29 := (hk25.ext he68).grown hg9 (fun e => by injection e with e; omega)
      refine L.nil ?_
      refine J.seq ?_
      refine J.region ?_
      refine L.va rfl ((by first | exact X.loadAgg rfl (range_l hk9) Tryd.underlying42 rfl (by kernel_rfl) | exact X.loadAgg rfl (range_blk hk9) Tryd.underlying42 rfl (by kernel_rfl))) ?_
      refine L.storeAgg (vs := [_, _, _, _, _, _, _]) rfl rfl rfl rfl sz_42 (hk29) rfl ?_
      intro w10 hk10 hg10 hs10
      refine L.nil ?_
      refine J.ret ?_
      refine finC rfl (run_cell hk10 Tryd.underlying42 rfl (by kernel_rfl)) ?_
      refine ⟨⟨A4, c4, A8, c8, { R.st with sm := R.st.sm.take u, tm := R.st.tm.take k }⟩, ?_, rfl, ⟨?_, ?_⟩, he09.grw hg10 (by intro g hg; injection hg with hg; omega)⟩
      · unfold Rl.v Rl.vals Rl.ss Rl.ts
        dsimp only
        rw [hul, hql]
      · show World.ownsRow _ _ _ _ (.slice A4 (R.st.sm.take u).length c4) (R.st.sm.take u).length _
        rw [hul]
        exact (ho59.kept hg10 (.inr fun e => by have h1 := (own_isT ho59 e).2; omega)).mono he02.le
      · show World.ownsRow _ _ _ _ (.slice A8 (R.st.tm.take k).length c8) (R.st.tm.take k).length _
        rw [hql]
        exact (ho9.kept hg10 (.inr fun e => by have h1 := (own_isT ho9 e).2; have h2 := hk25.lt; omega)).mono z05
end Go.Proofs.YtjdimgigbgafbaaDoor
namespace Go.Proofs.YtjdimgigbgafbaaDoor
set_option maxRecDepth 100000
open Go.RowKit H
open Lo Byts Seal Fram
set_option linter.unusedVariables false
namespace H
section
variable {P : Program} {f : Fr} {w : World} {t t2 : TypeId}
theorem finCCT {R : Ending → World → Prop} {a a2 b b2 k : Nat} {u u2 : Value} (hp : f a = .pointer (some ⟨b, 0, none⟩)) (hl : (loadVar t ⟨b, 0, none⟩).run P w = .ok u w) (hp2 : f a2 = .pointer (some ⟨b2, 0, none⟩)) (hl2 : (loadVar t2 ⟨b2, 0, none⟩).run P w = .ok u2 w) (h : R (.returned (.tuple #[u, u2, f k])) w) : fin P #[.cell a t, .cell a2 t2, .tmp k] R .ret f w :=
  ⟨.tuple #[u, u2, f k], by simp [resF, hp, hp2, asAddr, hl, hl2], h⟩
theorem finCCTT {R : Ending → World → Prop} {a a2 b b2 k m : Nat} {u u2 : Value} (hp : f a = .pointer (some ⟨b, 0, none⟩)) (hl : (loadVar t ⟨b, 0, none⟩).run P w = .ok u w) (hp2 : f a2 = .pointer (some ⟨b2, 0, none⟩)) (hl2 : (loadVar t2 ⟨b2, 0, none⟩).run P w = .ok u2 w) (h : R (.returned (.tuple #[u, u2, f k, f m])) w) : fin P #[.cell a t, .cell a2 t2, .tmp k, .tmp m] R .ret f w :=
  ⟨.tuple #[u, u2, f k, f m], by simp [resF, hp, hp2, asAddr, hl, hl2], h⟩
end
end H
theorem blkOf_id {zs : List Int} (h : zs.length = 1024) : blkOf zs = zs := by
  refine List.ext_getElem (by rw [blkOf_length, h]) fun i h1 h2 => ?_
  have e := blkOf_at (zs := zs) (i := i) (by omega)
  rw [if_pos (by omega), Nat.mod_eq_of_lt h2] at e
  rw [List.getD, List.getElem?_eq_getElem h1, List.getD, List.getElem?_eq_getElem h2] at e
  exact e
theorem do_odd (s : Ds) (k n : Int) (zs : List Int) (l : List Bool) (h : k = 1 → zs.length = 1024) : s.do_ ⟨k, n, zs, false, l⟩ = s.do_ ⟨k, n, zs, true, l⟩ := by
  have e : k = 1 → (Dd.mk k n zs false l).bytes = (Dd.mk k n zs true l).bytes := fun hk => blkOf_id (h hk)
  unfold Ds.do_
  by_cases hk : k = 1
  · rw [e hk]
  · simp [hk]
structure RTo (r : Rk) (R : Rl) (r' : Rk) (R' : Rl) (N : Nat) (s : Ds) (l : Ls) (w w' : World) : Prop where
  hr : r'.At N w'
  h : R'.At N w'
  ab : r'.abs = s
  st : R'.st = l
  he : Ext w w'
  fr : Rk.Fr r' r w
  cf : Rk.CF r' r w
  gr : Rl.Gr R R' w.heap.size
theorem Rk.At.blkL {r : Rk} {N g e : Nat} {w w' : World} {cs : Array Value} (h : r.At N w) (hb : Blk w g e cs) (hg : w.grownBy w' (some g)) (hNg : N ≤ g) (h1 : e ≠ 39 := by decide) (h2 : e ≠ 110 := by decide) (h3 : e ≠ 5 := by decide) : r.At N w' :=
  ⟨h.hk.kept hg (.inr (own_blk_ne h.hk hb (fun e => h1 e.symm))), h.hp.kept hg (.inr (own_blk_ne h.hp hb (fun e => h2 e.symm))), fun x hx => (h.kd x hx).blk hb hg hNg h.hN h3, fun x hx => ⟨(h.pd x hx).1, (h.pd x hx).2.blk hb hg hNg h.hN h3⟩, h.h1, Nat.le_trans h.hN hg.size⟩
theorem Rl.At.blkL {R : Rl} {N g e : Nat} {w w' : World} {cs : Array Value} (h : R.At N w) (hb : Blk w g e cs) (hg : w.grownBy w' (some g)) (h1 : e ≠ 5 := by decide) (h2 : e ≠ 35 := by decide) : R.At N w' :=
  ⟨h.hs.kept hg (.inr (own_blk_ne h.hs hb (fun e => h1 e.symm))), h.ht.kept hg (.inr (own_blk_ne h.ht hb (fun e => h2 e.symm)))⟩
theorem Reads.off {w w' : World} {B n b : Nat} {ty : TypeId} {cs : Array Value} {A : Option Addr} {k : IntKind} {zs : List Int} (h : Reads w B 1 A n (nums k zs)) (hb : Blk w b ty cs) (hk : ∀ (i : Nat) (z : Int), cs[i]? ≠ some (.int k z)) (hg : w.grownBy w' (some b)) : Reads w' B 1 A n (nums k zs) := by
  refine ⟨h.1, fun h0 => ?_⟩
  obtain ⟨g, off, u, rfl, hB, hu, hc⟩ := h.at_ (k := 0) h0
  obtain ⟨ad, e2, _, hcs⟩ := h.2 h0
  injection e2 with e2
  subst e2
  refine ⟨_, rfl, hB, fun j u hu => ?_⟩
  have h1 := hcs j u hu
  rw [Addr.add_mid] at h1 ⊢
  have hz : ∃ z, u = .int k z := by
    simp only [nums, List.getElem?_map] at hu
    cases hz : zs[j]? with
    | none => rw [hz] at hu; cases hu
    | some z => rw [hz] at hu; injection hu with hu; exact ⟨z, hu.symm⟩
  obtain ⟨z, rfl⟩ := hz
  have hne : g ≠ b := fun e => by
    subst e
    have h2 := hb.cell (off + j)
    rw [h2] at h1
    exact hk _ _ h1
  have hlt : g < w.heap.size := by
    apply Classical.byContradiction
    intro hn
    have hno : w.heap[g]? = none := Array.getElem?_eq_none (by omega)
    simp [World.cell?, hno] at h1
  rw [← h1]
  exact World.cell?_of_block (a := ⟨g, off + j, none⟩) (hg.block g hlt (fun e => hne (by injection e)))
theorem is22 (A : Option Addr) (n c : Nat) (zs : List Int) (ep : Int) (w : World) (hr : Reads w w.heap.size 1 A n (nums .u8 zs)) (hz : Bytes zs) (hnc : n ≤ c) (hc0 : c ≤ 9223372036854775807) :
    Calls Tryd.prog 41 #[.slice A n c, .int .u64 ep] w fun e w' => ∃ A' c', e = .returned (.tuple #[.agg #[.int .i64 (sK smZ zs), .int .u64 (sA smZ zs), .int .u64 (sB smZ zs), .slice A' (sV smZ zs).length c'], .bool (okP zs ep)]) ∧ Reads w' w'.heap.size 1 A' (sV smZ zs).length (nums .u8 (sV smZ zs)) ∧ Ext w w' ∧ (sV smZ zs).length ≤ c' ∧ ∀ g, Value.ownBlock (.slice A' (sV smZ zs).length c') = some g → w.heap.size ≤ g := by
  have hvl := sV_le hz
  refine enter Tryd.func41 rfl (by kernel_rfl) ?_
  refine J.seq ?_
  refine J.region ?_
  refine L.alloc rfl zr_75 ?_
  intro b4 w1 hb4 hs1 hk1 he1
  refine L.va rfl (X.assign (by conv => lhs; whnf)) ?_
  refine L.nil ?_
  refine J.seq ?_
  refine J.region ?_
  refine L.va rfl (X.move (by conv => lhs; whnf)) ?_
  refine L.call rfl en_59 rfl (srefget_anyF A n c zs w1 ((hr.ext he1).more he1.le) hz hnc hc0) ?_
  rintro e w2 ⟨A2, c2, rfl, hr2, he2, hc2, hf2⟩
  refine ⟨_, rfl, ?_⟩
  have he2 : Ext w1 w2 := he2
  refine L.va rfl (X.move (by conv => lhs; whnf)) ?_
  refine L.va rfl (X.extract rfl rfl) ?_
  refine L.va rfl (X.extract rfl rfl) ?_
  refine L.alloc rfl zr_75 ?_
  intro b6 w3 hb6 hs3 hk3 he3
  refine L.storeAgg (vs := [_, _, _, _]) rfl rfl rfl rfl sz_75 (hk3) rfl ?_
  intro w4 hk4 hg4 hs4
  have hk4 : Blk w4 b6 75 #[.int .i64 (sK smZ zs), .int .u64 (sA smZ zs), .int .u64 (sB smZ zs), .slice A2 (sV smZ zs).length c2] := hk4
  have z1 := he1.le
  have z2 := he2.le
  have z3 := he3.le
  have he24 : Ext w2 w4 := he3.grw hg4 (by intro g hg; injection hg with hg; omega)
  have hk14 := (hk1.ext he2).ext he24
  have b46 : b4 ≠ b6 := by have := hk1.lt; omega
  have hr4 := (hr2.ext he24).more he24.le
  have he14 : Ext w w4 := (he1.trans he2).trans he24
  have FIN : ∀ {w5 w6 : World} {q : Bool}, Ext w4 w5 → w5.grownBy w6 (some b4) → q = okP zs ep → ∃ A' c', Ending.returned (.tuple #[.agg #[.int .i64 (sK smZ zs), .int .u64 (sA smZ zs), .int .u64 (sB smZ zs), .slice A2 (sV smZ zs).length c2], .bool q]) = .returned (.tuple #[.agg #[.int .i64 (sK smZ zs), .int .u64 (sA smZ zs), .int .u64 (sB smZ zs), .slice A' (sV smZ zs).length c'], .bool (okP zs ep)]) ∧ Reads w6 w6.heap.size 1 A' (sV smZ zs).length (nums .u8 (sV smZ zs)) ∧ Ext w w6 ∧ (sV smZ zs).length ≤ c' ∧ ∀ g, Value.ownBlock (.slice A' (sV smZ zs).length c') = some g → w.heap.size ≤ g := by
    intro w5 w6 q he5 hg6 hq
    have z5 := he5.le
    have z6 := hg6.size
    have h14 : Blk w4 b4 75 #[.int .i64 0, .int .u64 0, .int .u64 0, .slice none 0 0] := hk14
    refine ⟨A2, c2, by rw [hq], Reads.more (B := w4.heap.size) ((hr4.ext he5).off (h14.ext he5) (fun i z => ?_) hg6) (by omega), (he14.trans he5).grw hg6 (by intro g hg; injection hg with hg; omega), hc2, fun g hg => Nat.le_trans z1 (hf2 g hg)⟩
    match i with
    | 0 => intro e; cases e
    | 1 => intro e; cases e
    | 2 => intro e; cases e
    | 3 => intro e; cases e
    | i + 4 => intro e; cases e
  refine L.va rfl (X.assign (by conv => lhs; whnf)) ?_
  refine L.nil ?_
  refine J.seq ?_
  refine J.draw (ℓ := 1000000) (S := (fun w' => Blk w' b6 75 #[.int .i64 (sK smZ zs), .int .u64 (sA smZ zs), .int .u64 (sB smZ zs), .slice A2 (sV smZ zs).length c2])) mixed (fun w5 hSE hS_h => ?_)
  have hS : ((fun w' => Blk w' b6 75 #[.int .i64 (sK smZ zs), .int .u64 (sA smZ zs), .int .u64 (sB smZ zs), .slice A2 (sV smZ zs).length c2])) w5 := hk4.ext hSE
  refine D.va 0 rfl (by kernel_rfl) (fun _ _ _ h => h) rfl (fun w' hw => X.loadAgg rfl (range_l hw) Tryd.underlying75 rfl (by kernel_rfl)) hS ?_
  refine D.va 1 rfl (by kernel_rfl) (fun _ _ _ h => h) rfl (fun w' hw => X.move (by conv => lhs; whnf)) hS ?_
  refine D.va 2 rfl (by kernel_rfl) (fun _ _ _ h => h) rfl (fun w' hw => X.eql rfl rfl) hS ?_
  refine D.va 3 rfl (by kernel_rfl) (fun _ _ _ h => h) rfl (fun w' hw => X.move (by conv => lhs; whnf)) hS ?_
  refine D.caseDec (k := 16) rfl (fun q1 => ?_) (fun q1 => ?_)
  · refine D.va 4 rfl (by kernel_rfl) (fun _ _ _ h => h) rfl (fun w' hw => X.fieldAddr rfl Tryd.underlying75 rfl sz_3 (by decide)) hS ?_
    refine D.va 5 rfl (by kernel_rfl) (fun _ _ _ h => h) rfl (fun w' hw => X.load rfl sc_3 (by first | exact Ld.blk hw rfl)) hS ?_
    refine D.va 6 rfl (by kernel_rfl) (fun _ _ _ h => h) rfl (fun w' hw => X.eql rfl rfl) hS ?_
    refine D.va 7 rfl (by kernel_rfl) (fun _ _ _ h => h) rfl (fun w' hw => X.pickT rfl (by conv => lhs; whnf)) hS ?_
    refine D.va 8 rfl (by kernel_rfl) (fun _ _ _ h => h) rfl (fun w' hw => X.move (by conv => lhs; whnf)) hS ?_
    refine D.caseDec (k := 21) rfl (fun q2 => ?_) (fun q2 => ?_)
    · refine D.va 9 rfl (by kernel_rfl) (fun _ _ _ h => h) rfl (fun w' hw => X.fieldAddr rfl Tryd.underlying75 rfl sz_35 (by decide)) hS ?_
      refine D.va 10 rfl (by kernel_rfl) (fun _ _ _ h => h) rfl (fun w' hw => X.load rfl sc_35 (by first | exact Ld.blk hw rfl)) hS ?_
      refine D.va 11 rfl (by kernel_rfl) (fun _ _ _ h => h) rfl (fun w' hw => X.move (by conv => lhs; whnf)) hS ?_
      refine D.va 12 rfl (by kernel_rfl) (fun _ _ _ h => h) rfl (fun w' hw => X.eql rfl rfl) hS ?_
      refine D.va 13 rfl (by kernel_rfl) (fun _ _ _ h => h) rfl (fun w' hw => X.pickT rfl (by conv => lhs; whnf)) hS ?_
      refine D.va 14 rfl (by kernel_rfl) (fun _ _ _ h => h) rfl (fun w' hw => X.move (by conv => lhs; whnf)) hS ?_
      refine D.caseDec (k := 27) rfl (fun q3 => ?_) (fun q3 => ?_)
      · refine D.va 15 rfl (by kernel_rfl) (fun _ _ _ h => h) rfl (fun w' hw => X.fieldAddr rfl Tryd.underlying75 rfl sz_35 (by decide)) hS ?_
        refine D.va 16 rfl (by kernel_rfl) (fun _ _ _ h => h) rfl (fun w' hw => X.load rfl sc_35 (by first | exact Ld.blk hw rfl)) hS ?_
        refine D.va 17 rfl (by kernel_rfl) (fun _ _ _ h => h) rfl (fun w' hw => X.geq rfl rfl) hS ?_
        refine D.va 18 rfl (by kernel_rfl) (fun _ _ _ h => h) rfl (fun w' hw => X.pickT rfl (by conv => lhs; whnf)) hS ?_
        refine D.va 19 rfl (by kernel_rfl) (fun _ _ _ h => h) rfl (fun w' hw => X.move (by conv => lhs; whnf)) hS ?_
        refine D.caseDec (k := 32) rfl (fun q4 => ?_) (fun q4 => ?_)
        · refine D.va 20 rfl (by kernel_rfl) (fun _ _ _ h => h) rfl (fun w' hw => X.fieldAddr rfl Tryd.underlying75 rfl sz_35 (by decide)) hS ?_
          refine D.va 21 rfl (by kernel_rfl) (fun _ _ _ h => h) rfl (fun w' hw => X.load rfl sc_35 (by first | exact Ld.blk hw rfl)) hS ?_
          refine D.va 22 rfl (by kernel_rfl) (fun _ _ _ h => h) rfl (fun w' hw => X.lss rfl rfl) hS ?_
          refine D.va 23 rfl (by kernel_rfl) (fun _ _ _ h => h) rfl (fun w' hw => X.pickT rfl (by conv => lhs; whnf)) hS ?_
          refine D.va 24 rfl (by kernel_rfl) (fun _ _ _ h => h) rfl (fun w' hw => X.move (by conv => lhs; whnf)) hS ?_
          refine D.caseDec (k := 37) rfl (fun q5 => ?_) (fun q5 => ?_)
          · refine D.va 25 rfl (by kernel_rfl) (fun _ _ _ h => h) rfl (fun w' hw => X.fieldAddr rfl Tryd.underlying75 rfl sz_39 (by decide)) hS ?_
            refine D.va 26 rfl (by kernel_rfl) (fun _ _ _ h => h) rfl (fun w' hw => X.load rfl sc_39 (by first | exact Ld.blk hw rfl)) hS ?_
            refine D.va 27 rfl (by kernel_rfl) (fun _ _ _ h => h) rfl (fun w' hw => X.len rfl Tryd.underlying39) hS ?_
            refine D.va 28 rfl (by kernel_rfl) (fun _ _ _ h => h) rfl (fun w' hw => X.geq rfl rfl) hS ?_
            refine D.va 29 rfl (by kernel_rfl) (fun _ _ _ h => h) rfl (fun w' hw => X.pickT rfl (by conv => lhs; whnf)) hS ?_
            refine D.one 30 (by kernel_rfl) rfl ?_
            refine L.storeAgg (vs := [_, _, _, _]) rfl rfl rfl rfl sz_75 ((hk14.ext hSE)) rfl ?_
            intro w6 hk6 hg6 hs6
            have hS1 := hS.grown hg6 (by intro h; injection h with h; exact b46 h.symm)
            refine L.nil ?_
            refine ⟨fun _ => hS1, ?_⟩
            refine D.va 31 rfl (by kernel_rfl) (fun _ _ _ h => h) rfl (fun w' hw => X.assign (by conv => lhs; whnf)) hS1 ?_
            refine D.done (by kernel_rfl) ?_
            refine J.ret ?_
            refine finCT rfl (run_cell hk6 Tryd.underlying75 rfl (by kernel_rfl)) ?_
            exact FIN hSE hg6 (decide_eq_decide.2 ⟨fun h => ⟨q1, q2, q3, q4, q5, by omega⟩, fun h => by have := h.2.2.2.2.2; omega⟩)
          · refine D.no 25 rfl (by kernel_rfl) (fun _ _ _ h => h) rfl hS ?_
            refine D.no 26 rfl (by kernel_rfl) (fun _ _ _ h => h) rfl hS ?_
            refine D.no 27 rfl (by kernel_rfl) (fun _ _ _ h => h) rfl hS ?_
            refine D.no 28 rfl (by kernel_rfl) (fun _ _ _ h => h) rfl hS ?_
            refine D.va 29 rfl (by kernel_rfl) (fun _ _ _ h => h) rfl (fun w' hw => X.pickF rfl (by conv => lhs; whnf)) hS ?_
            refine D.one 30 (by kernel_rfl) rfl ?_
            refine L.storeAgg (vs := [_, _, _, _]) rfl rfl rfl rfl sz_75 ((hk14.ext hSE)) rfl ?_
            intro w6 hk6 hg6 hs6
            have hS1 := hS.grown hg6 (by intro h; injection h with h; exact b46 h.symm)
            refine L.nil ?_
            refine ⟨fun _ => hS1, ?_⟩
            refine D.va 31 rfl (by kernel_rfl) (fun _ _ _ h => h) rfl (fun w' hw => X.assign (by conv => lhs; whnf)) hS1 ?_
            refine D.done (by kernel_rfl) ?_
            refine J.ret ?_
            refine finCT rfl (run_cell hk6 Tryd.underlying75 rfl (by kernel_rfl)) ?_
            exact FIN hSE hg6 ((decide_eq_false fun h => q5 h.2.2.2.2.1).symm)
        · refine D.no 20 rfl (by kernel_rfl) (fun _ _ _ h => h) rfl hS ?_
          refine D.no 21 rfl (by kernel_rfl) (fun _ _ _ h => h) rfl hS ?_
          refine D.no 22 rfl (by kernel_rfl) (fun _ _ _ h => h) rfl hS ?_
          refine D.va 23 rfl (by kernel_rfl) (fun _ _ _ h => h) rfl (fun w' hw => X.pickF rfl (by conv => lhs; whnf)) hS ?_
          refine D.va 24 rfl (by kernel_rfl) (fun _ _ _ h => h) rfl (fun w' hw => X.move (by conv => lhs; whnf)) hS ?_
          refine D.no 25 rfl (by kernel_rfl) (fun _ _ _ h => h) rfl hS ?_
          refine D.no 26 rfl (by kernel_rfl) (fun _ _ _ h => h) rfl hS ?_
          refine D.no 27 rfl (by kernel_rfl) (fun _ _ _ h => h) rfl hS ?_
          refine D.no 28 rfl (by kernel_rfl) (fun _ _ _ h => h) rfl hS ?_
          refine D.va 29 rfl (by kernel_rfl) (fun _ _ _ h => h) rfl (fun w' hw => X.pickF rfl (by conv => lhs; whnf)) hS ?_
          refine D.one 30 (by kernel_rfl) rfl ?_
          refine L.storeAgg (vs := [_, _, _, _]) rfl rfl rfl rfl sz_75 ((hk14.ext hSE)) rfl ?_
          intro w6 hk6 hg6 hs6
          have hS1 := hS.grown hg6 (by intro h; injection h with h; exact b46 h.symm)
          refine L.nil ?_
          refine ⟨fun _ => hS1, ?_⟩
          refine D.va 31 rfl (by kernel_rfl) (fun _ _ _ h => h) rfl (fun w' hw => X.assign (by conv => lhs; whnf)) hS1 ?_
          refine D.done (by kernel_rfl) ?_
          refine J.ret ?_
          refine finCT rfl (run_cell hk6 Tryd.underlying75 rfl (by kernel_rfl)) ?_
          exact FIN hSE hg6 ((decide_eq_false fun h => q4 h.2.2.2.1).symm)
      · refine D.no 15 rfl (by kernel_rfl) (fun _ _ _ h => h) rfl hS ?_
        refine D.no 16 rfl (by kernel_rfl) (fun _ _ _ h => h) rfl hS ?_
        refine D.no 17 rfl (by kernel_rfl) (fun _ _ _ h => h) rfl hS ?_
        refine D.va 18 rfl (by kernel_rfl) (fun _ _ _ h => h) rfl (fun w' hw => X.pickF rfl (by conv => lhs; whnf)) hS ?_
        refine D.va 19 rfl (by kernel_rfl) (fun _ _ _ h => h) rfl (fun w' hw => X.move (by conv => lhs; whnf)) hS ?_
        refine D.no 20 rfl (by kernel_rfl) (fun _ _ _ h => h) rfl hS ?_
        refine D.no 21 rfl (by kernel_rfl) (fun _ _ _ h => h) rfl hS ?_
        refine D.no 22 rfl (by kernel_rfl) (fun _ _ _ h => h) rfl hS ?_
        refine D.va 23 rfl (by kernel_rfl) (fun _ _ _ h => h) rfl (fun w' hw => X.pickF rfl (by conv => lhs; whnf)) hS ?_
        refine D.va 24 rfl (by kernel_rfl) (fun _ _ _ h => h) rfl (fun w' hw => X.move (by conv => lhs; whnf)) hS ?_
        refine D.no 25 rfl (by kernel_rfl) (fun _ _ _ h => h) rfl hS ?_
        refine D.no 26 rfl (by kernel_rfl) (fun _ _ _ h => h) rfl hS ?_
        refine D.no 27 rfl (by kernel_rfl) (fun _ _ _ h => h) rfl hS ?_
        refine D.no 28 rfl (by kernel_rfl) (fun _ _ _ h => h) rfl hS ?_
        refine D.va 29 rfl (by kernel_rfl) (fun _ _ _ h => h) rfl (fun w' hw => X.pickF rfl (by conv => lhs; whnf)) hS ?_
        refine D.one 30 (by kernel_rfl) rfl ?_
        refine L.storeAgg (vs := [_, _, _, _]) rfl rfl rfl rfl sz_75 ((hk14.ext hSE)) rfl ?_
        intro w6 hk6 hg6 hs6
        have hS1 := hS.grown hg6 (by intro h; injection h with h; exact b46 h.symm)
        refine L.nil ?_
        refine ⟨fun _ => hS1, ?_⟩
        refine D.va 31 rfl (by kernel_rfl) (fun _ _ _ h => h) rfl (fun w' hw => X.assign (by conv => lhs; whnf)) hS1 ?_
        refine D.done (by kernel_rfl) ?_
        refine J.ret ?_
        refine finCT rfl (run_cell hk6 Tryd.underlying75 rfl (by kernel_rfl)) ?_
        exact FIN hSE hg6 ((decide_eq_false fun h => q3 h.2.2.1).symm)
    · refine D.no 9 rfl (by kernel_rfl) (fun _ _ _ h => h) rfl hS ?_
      refine D.no 10 rfl (by kernel_rfl) (fun _ _ _ h => h) rfl hS ?_
      refine D.no 11 rfl (by kernel_rfl) (fun _ _ _ h => h) rfl hS ?_
      refine D.no 12 rfl (by kernel_rfl) (fun _ _ _ h => h) rfl hS ?_
      refine D.va 13 rfl (by kernel_rfl) (fun _ _ _ h => h) rfl (fun w' hw => X.pickF rfl (by conv => lhs; whnf)) hS ?_
      refine D.va 14 rfl (by kernel_rfl) (fun _ _ _ h => h) rfl (fun w' hw => X.move (by conv => lhs; whnf)) hS ?_
      refine D.no 15 rfl (by kernel_rfl) (fun _ _ _ h => h) rfl hS ?_
      refine D.no 16 rfl (by kernel_rfl) (fun _ _ _ h => h) rfl hS ?_
      refine D.no 17 rfl (by kernel_rfl) (fun _ _ _ h => h) rfl hS ?_
      refine D.va 18 rfl (by kernel_rfl) (fun _ _ _ h => h) rfl (fun w' hw => X.pickF rfl (by conv => lhs; whnf)) hS ?_
      refine D.va 19 rfl (by kernel_rfl) (fun _ _ _ h => h) rfl (fun w' hw => X.move (by conv => lhs; whnf)) hS ?_
      refine D.no 20 rfl (by kernel_rfl) (fun _ _ _ h => h) rfl hS ?_
      refine D.no 21 rfl (by kernel_rfl) (fun _ _ _ h => h) rfl hS ?_
      refine D.no 22 rfl (by kernel_rfl) (fun _ _ _ h => h) rfl hS ?_
      refine D.va 23 rfl (by kernel_rfl) (fun _ _ _ h => h) rfl (fun w' hw => X.pickF rfl (by conv => lhs; whnf)) hS ?_
      refine D.va 24 rfl (by kernel_rfl) (fun _ _ _ h => h) rfl (fun w' hw => X.move (by conv => lhs; whnf)) hS ?_
      refine D.no 25 rfl (by kernel_rfl) (fun _ _ _ h => h) rfl hS ?_
      refine D.no 26 rfl (by kernel_rfl) (fun _ _ _ h => h) rfl hS ?_
      refine D.no 27 rfl (by kernel_rfl) (fun _ _ _ h => h) rfl hS ?_
      refine D.no 28 rfl (by kernel_rfl) (fun _ _ _ h => h) rfl hS ?_
      refine D.va 29 rfl (by kernel_rfl) (fun _ _ _ h => h) rfl (fun w' hw => X.pickF rfl (by conv => lhs; whnf)) hS ?_
      refine D.one 30 (by kernel_rfl) rfl ?_
      refine L.storeAgg (vs := [_, _, _, _]) rfl rfl rfl rfl sz_75 ((hk14.ext hSE)) rfl ?_
      intro w6 hk6 hg6 hs6
      have hS1 := hS.grown hg6 (by intro h; injection h with h; exact b46 h.symm)
      refine L.nil ?_
      refine ⟨fun _ => hS1, ?_⟩
      refine D.va 31 rfl (by kernel_rfl) (fun _ _ _ h => h) rfl (fun w' hw => X.assign (by conv => lhs; whnf)) hS1 ?_
      refine D.done (by kernel_rfl) ?_
      refine J.ret ?_
      refine finCT rfl (run_cell hk6 Tryd.underlying75 rfl (by kernel_rfl)) ?_
      exact FIN hSE hg6 ((decide_eq_false fun h => q2 h.2.1).symm)
  · refine D.no 4 rfl (by kernel_rfl) (fun _ _ _ h => h) rfl hS ?_
    refine D.no 5 rfl (by kernel_rfl) (fun _ _ _ h => h) rfl hS ?_
    refine D.no 6 rfl (by kernel_rfl) (fun _ _ _ h => h) rfl hS ?_
    refine D.va 7 rfl (by kernel_rfl) (fun _ _ _ h => h) rfl (fun w' hw => X.pickF rfl (by conv => lhs; whnf)) hS ?_
    refine D.va 8 rfl (by kernel_rfl) (fun _ _ _ h => h) rfl (fun w' hw => X.move (by conv => lhs; whnf)) hS ?_
    refine D.no 9 rfl (by kernel_rfl) (fun _ _ _ h => h) rfl hS ?_
    refine D.no 10 rfl (by kernel_rfl) (fun _ _ _ h => h) rfl hS ?_
    refine D.no 11 rfl (by kernel_rfl) (fun _ _ _ h => h) rfl hS ?_
    refine D.no 12 rfl (by kernel_rfl) (fun _ _ _ h => h) rfl hS ?_
    refine D.va 13 rfl (by kernel_rfl) (fun _ _ _ h => h) rfl (fun w' hw => X.pickF rfl (by conv => lhs; whnf)) hS ?_
    refine D.va 14 rfl (by kernel_rfl) (fun _ _ _ h => h) rfl (fun w' hw => X.move (by conv => lhs; whnf)) hS ?_
    refine D.no 15 rfl (by kernel_rfl) (fun _ _ _ h => h) rfl hS ?_
    refine D.no 16 rfl (by kernel_rfl) (fun _ _ _ h => h) rfl hS ?_
    refine D.no 17 rfl (by kernel_rfl) (fun _ _ _ h => h) rfl hS ?_
    refine D.va 18 rfl (by kernel_rfl) (fun _ _ _ h => h) rfl (fun w' hw => X.pickF rfl (by conv => lhs; whnf)) hS ?_
    refine D.va 19 rfl (by kernel_rfl) (fun _ _ _ h => h) rfl (fun w' hw => X.move (by conv => lhs; whnf)) hS ?_
    refine D.no 20 rfl (by kernel_rfl) (fun _ _ _ h => h) rfl hS ?_
    refine D.no 21 rfl (by kernel_rfl) (fun _ _ _ h => h) rfl hS ?_
    refine D.no 22 rfl (by kernel_rfl) (fun _ _ _ h => h) rfl hS ?_
    refine D.va 23 rfl (by kernel_rfl) (fun _ _ _ h => h) rfl (fun w' hw => X.pickF rfl (by conv => lhs; whnf)) hS ?_
    refine D.va 24 rfl (by kernel_rfl) (fun _ _ _ h => h) rfl (fun w' hw => X.move (by conv => lhs; whnf)) hS ?_
    refine D.no 25 rfl (by kernel_rfl) (fun _ _ _ h => h) rfl hS ?_
    refine D.no 26 rfl (by kernel_rfl) (fun _ _ _ h => h) rfl hS ?_
    refine D.no 27 rfl (by kernel_rfl) (fun _ _ _ h => h) rfl hS ?_
    refine D.no 28 rfl (by kernel_rfl) (fun _ _ _ h => h) rfl hS ?_
    refine D.va 29 rfl (by kernel_rfl) (fun _ _ _ h => h) rfl (fun w' hw => X.pickF rfl (by conv => lhs; whnf)) hS ?_
    refine D.one 30 (by kernel_rfl) rfl ?_
    refine L.storeAgg (vs := [_, _, _, _]) rfl rfl rfl rfl sz_75 ((hk14.ext hSE)) rfl ?_
    intro w6 hk6 hg6 hs6
    have hS1 := hS.grown hg6 (by intro h; injection h with h; exact b46 h.symm)
    refine L.nil ?_
    refine ⟨fun _ => hS1, ?_⟩
    refine D.va 31 rfl (by kernel_rfl) (fun _ _ _ h => h) rfl (fun w' hw => X.assign (by conv => lhs; whnf)) hS1 ?_
    refine D.done (by kernel_rfl) ?_
    refine J.ret ?_
    refine finCT rfl (run_cell hk6 Tryd.underlying75 rfl (by kernel_rfl)) ?_
    exact FIN hSE hg6 ((decide_eq_false fun h => q1 h.1).symm)
end Go.Proofs.YtjdimgigbgafbaaDoor
namespace Go.Proofs.YtjdimgigbgafbaaDoor
set_option maxRecDepth 100000
open Go.RowKit H
open Lo Byts Seal Fram
set_option linter.unusedVariables false
structure RMid (r : Rk) (R : Rl) (l1 : Ls) (N first k m : Nat) (b3 b4 b6 b7 : Nat) (A9 : Option Addr) (c9 : Nat) (w : World) (j : Nat) (s : Rk) (Q : Rl) (w' : World) : Prop where
  jk : j ≤ k
  eq : wrN r.abs l1 first k = wrN s.abs Q.st (first + j) (k - j)
  sA : Q.sA = A9
  sc : Q.sc = c9
  wr : Wr l1 Q.st first j
  n1 : 0 ≤ Q.st.nx
  ok : s.abs.Ok (m + j)
  hr : s.At N w'
  h : Q.At N w'
  k3 : Blk w' b3 33 #[s.K, s.P, .bool s.off, .int .i64 s.left, .int .i64 s.rd, .int .i64 s.wr, .int .i64 s.fl]
  k4 : Blk w' b4 42 #[.int .i64 (Q.st.fr : Int), .int .i64 (Q.st.ct : Int), .int .u64 Q.st.ep, .int .u64 Q.st.nx, Q.ss, Q.ts, .int .i64 Q.st.bad]
  k6 : Blk w' b6 33 #[.slice none 0 0, .slice none 0 0, .bool false, .int .i64 0, .int .i64 0, .int .i64 0, .int .i64 0]
  k7 : Blk w' b7 42 #[.int .i64 0, .int .i64 0, .int .u64 0, .int .u64 0, .slice none 0 0, .slice none 0 0, .int .i64 0]
  he : Ext w w'
  fr : Rk.Fr s r w
  cf : Rk.CF s r w
  gr : Rl.Gr R Q w.heap.size
set_option maxHeartbeats 4000000 in
theorem append22 {r : Rk} {R : Rl} {N m : Nat} {w : World} (hr : r.At N w) (h : R.At N w) (hok : r.abs.Ok m) (hm : m + 8192 ≤ 1000000) (hL : Lo.Ok R.st r.kp.length) (A : Option Addr) (n c : Nat) (zs : List Int) (hr0 : Reads w w.heap.size 1 A n (nums .u8 zs)) (hz : Bytes zs) (hn : n ≤ 1000000) :
    Calls Tryd.prog 14 #[r.v, R.v, .slice A n c] w fun e w' => ∃ r' R', e = .returned (.tuple #[r'.v, R'.v, .int .i64 (appL r.abs R.st zs).2.2]) ∧ RTo r R r' R' N (appL r.abs R.st zs).1 (appL r.abs R.st zs).2.1 w w' := by
  have hNs := hr.hN
  have hzl : zs.length = n := by have := hr0.1; simpa [nums] using this
  obtain ⟨f1, f2, hep, n1, n2, hsb, hsl, htl, htt, htc⟩ := hL
  have hkl := hr.h1
  refine enter Tryd.func14 rfl (by kernel_rfl) ?_
  refine J.seq ?_
  refine J.region ?_
  refine L.boxA (l := [_, _, _, _, _, _, _]) rfl rfl ?_
  intro b3 w2 hb3 hs2 hk3 he2
  refine L.boxA (l := [_, _, _, _, _, _, _]) rfl rfl ?_
  intro b4 w3 hb4 hs3 hk4 he3
  refine L.alloc rfl zr_33 ?_
  intro b6 w4 hb6 hs4 hk6 he4
  refine L.alloc rfl zr_42 ?_
  intro b7 w5 hb7 hs5 hk7 he5
  have he05 := ((he2.trans he3).trans he4).trans he5
  have z05 := he05.le
  have hk35 : Blk w5 b3 33 #[r.K, r.P, .bool r.off, .int .i64 r.left, .int .i64 r.rd, .int .i64 r.wr, .int .i64 r.fl] := ((hk3.ext he3).ext he4).ext he5
  have hk45 : Blk w5 b4 42 #[.int .i64 (R.st.fr : Int), .int .i64 (R.st.ct : Int), .int .u64 R.st.ep, .int .u64 R.st.nx, R.ss, R.ts, .int .i64 R.st.bad] := (hk4.ext he4).ext he5
  have hk65 := hk6.ext he5
  refine L.va rfl (X.assign (by conv => lhs; whnf)) ?_
  refine L.nil ?_
  refine J.seq ?_
  refine J.seq ?_
  refine J.region ?_
  refine L.va rfl (X.fieldAddr rfl Tryd.underlying42 rfl sz_3 (by decide)) ?_
  refine L.va rfl (X.load rfl sc_3 (by first | exact Ld.blk hk35 rfl | exact Ld.blk hk45 rfl)) ?_
  refine L.va rfl (X.neq rfl rfl) ?_
  refine L.nil ?_
  refine J.ndec rfl (fun h0 => ?_) (fun h0 => ?_)
  · have e : appL r.abs R.st zs = (r.abs, R.st, R.st.bad) := if_pos h0
    rw [e]
    refine J.seq ?_
    refine J.draw (ℓ := 1000000) (S := Below b6 w5) mixed (fun wx hSE hS_h => ?_)
    have hS : (Below b6 w5) wx := Below.mono hSE (by omega)
    have hcd := hk65.ext hSE
    have hcl := hk7.ext hSE
    have zx := hSE.le
    have hra := (hr.ext he05).ext hSE
    have hRa := (h.ext he05).ext hSE
    refine D.va 0 rfl (by kernel_rfl) (fun _ _ _ h => h) rfl (fun w' hw => (by first | exact X.loadAgg rfl (range_l (hk35.low hw (by omega))) Tryd.underlying33 rfl (by kernel_rfl) | exact X.loadAgg rfl (range_blk (hk35.low hw (by omega))) Tryd.underlying33 rfl (by kernel_rfl) | exact X.loadAgg rfl (range_l (hk45.low hw (by omega))) Tryd.underlying33 rfl (by kernel_rfl) | exact X.loadAgg rfl (range_blk (hk45.low hw (by omega))) Tryd.underlying33 rfl (by kernel_rfl))) hS ?_
    refine D.va 1 rfl (by kernel_rfl) (fun _ _ _ h => h) rfl (fun w' hw => (by first | exact X.loadAgg rfl (range_l (hk35.low hw (by omega))) Tryd.underlying42 rfl (by kernel_rfl) | exact X.loadAgg rfl (range_blk (hk35.low hw (by omega))) Tryd.underlying42 rfl (by kernel_rfl) | exact X.loadAgg rfl (range_l (hk45.low hw (by omega))) Tryd.underlying42 rfl (by kernel_rfl) | exact X.loadAgg rfl (range_blk (hk45.low hw (by omega))) Tryd.underlying42 rfl (by kernel_rfl))) hS ?_
    refine D.va 2 rfl (by kernel_rfl) (fun _ _ _ h => h) rfl (fun w' hw => X.fieldAddr rfl Tryd.underlying42 rfl sz_3 (by decide)) hS ?_
    refine D.va 3 rfl (by kernel_rfl) (fun _ _ _ h => h) rfl (fun w' hw => X.load rfl sc_3 (by first | exact Ld.blk (hk35.low hw (by omega)) rfl | exact Ld.blk (hk45.low hw (by omega)) rfl)) hS ?_
    have zs := Below.size (hS)
    refine D.one 4 (by kernel_rfl) rfl ?_
    refine L.storeAgg (vs := [_, _, _, _, _, _, _]) rfl rfl rfl rfl sz_33 (hcd) rfl ?_
    intro wa hka hga hsa
    have hS1 := Below.grown (hS) hga (by omega) (by intro g hg; injection hg with hg; omega)
    refine L.nil ?_
    refine ⟨fun _ => hS1, ?_⟩
    replace hra := hra.blkL hcd hga (by omega)
    replace hRa := hRa.blkL hcd hga
    try replace hcl := hcl.grown hga (by intro h; injection h with h; omega)
    try replace hkb := hkb.grown hga (by intro h; injection h with h; omega)
    have zs := Below.size (hS1)
    refine D.one 5 (by kernel_rfl) rfl ?_
    refine L.storeAgg (vs := [_, _, _, _, _, _, _]) rfl rfl rfl rfl sz_42 (hcl) rfl ?_
    intro wb hkb hgb hsb
    have hS2 := Below.grown (hS1) hgb (by omega) (by intro g hg; injection hg with hg; omega)
    refine L.nil ?_
    refine ⟨fun _ => hS2, ?_⟩
    replace hra := hra.blkL hcl hgb (by omega)
    replace hRa := hRa.blkL hcl hgb
    try replace hcd := hcd.grown hgb (by intro h; injection h with h; omega)
    try replace hka := hka.grown hgb (by intro h; injection h with h; omega)
    refine D.va 6 rfl (by kernel_rfl) (fun _ _ _ h => h) rfl (fun w' hw => X.assign (by conv => lhs; whnf)) hS2 ?_
    refine D.done (by kernel_rfl) ?_
    replace hk35 := hk35.low hS2 (by omega)
    replace hk45 := hk45.low hS2 (by omega)
    refine J.ret ?_
    refine thn_ret <| ?_
    refine finCCT rfl (run_cell hka Tryd.underlying33 rfl (by kernel_rfl)) rfl (run_cell hkb Tryd.underlying42 rfl (by kernel_rfl)) ?_
    have he : Ext w _ := Below.trans he05 (Below.mono (hS2) (by omega))
    exact ⟨r, R, rfl, hra, hRa, rfl, rfl, he, fun g hg => .inl hg, Rk.CF.same rfl rfl, Rl.Gr.refl _ _⟩
  · have htl := htl h0
    refine J.skip ?_
    refine J.seq ?_
    refine J.seq ?_
    refine J.region ?_
    refine L.va rfl (X.move (by conv => lhs; whnf)) ?_
    refine L.va rfl (X.len rfl Tryd.underlying39) ?_
    refine L.va rfl (X.gtr rfl rfl) ?_
    refine L.nil ?_
    refine J.dec rfl (fun h6 => ?_) (fun h6 => ?_)
    · have e : appL r.abs R.st zs = (r.abs, R.st, 4) := by unfold appL; rw [if_neg (fun q => q h0), if_pos (by omega)]
      rw [e]
      refine J.seq ?_
      refine J.draw (ℓ := 1000000) (S := Below b6 w5) mixed (fun wx hSE hS_h => ?_)
      have hS : (Below b6 w5) wx := Below.mono hSE (by omega)
      have hcd := hk65.ext hSE
      have hcl := hk7.ext hSE
      have zx := hSE.le
      have hra := (hr.ext he05).ext hSE
      have hRa := (h.ext he05).ext hSE
      refine D.va 0 rfl (by kernel_rfl) (fun _ _ _ h => h) rfl (fun w' hw => (by first | exact X.loadAgg rfl (range_l (hk35.low hw (by omega))) Tryd.underlying33 rfl (by kernel_rfl) | exact X.loadAgg rfl (range_blk (hk35.low hw (by omega))) Tryd.underlying33 rfl (by kernel_rfl) | exact X.loadAgg rfl (range_l (hk45.low hw (by omega))) Tryd.underlying33 rfl (by kernel_rfl) | exact X.loadAgg rfl (range_blk (hk45.low hw (by omega))) Tryd.underlying33 rfl (by kernel_rfl))) hS ?_
      refine D.va 1 rfl (by kernel_rfl) (fun _ _ _ h => h) rfl (fun w' hw => (by first | exact X.loadAgg rfl (range_l (hk35.low hw (by omega))) Tryd.underlying42 rfl (by kernel_rfl) | exact X.loadAgg rfl (range_blk (hk35.low hw (by omega))) Tryd.underlying42 rfl (by kernel_rfl) | exact X.loadAgg rfl (range_l (hk45.low hw (by omega))) Tryd.underlying42 rfl (by kernel_rfl) | exact X.loadAgg rfl (range_blk (hk45.low hw (by omega))) Tryd.underlying42 rfl (by kernel_rfl))) hS ?_
      have zs := Below.size (hS)
      refine D.one 2 (by kernel_rfl) rfl ?_
      refine L.storeAgg (vs := [_, _, _, _, _, _, _]) rfl rfl rfl rfl sz_33 (hcd) rfl ?_
      intro wa hka hga hsa
      have hS1 := Below.grown (hS) hga (by omega) (by intro g hg; injection hg with hg; omega)
      refine L.nil ?_
      refine ⟨fun _ => hS1, ?_⟩
      replace hra := hra.blkL hcd hga (by omega)
      replace hRa := hRa.blkL hcd hga
      try replace hcl := hcl.grown hga (by intro h; injection h with h; omega)
      try replace hkb := hkb.grown hga (by intro h; injection h with h; omega)
      have zs := Below.size (hS1)
      refine D.one 3 (by kernel_rfl) rfl ?_
      refine L.storeAgg (vs := [_, _, _, _, _, _, _]) rfl rfl rfl rfl sz_42 (hcl) rfl ?_
      intro wb hkb hgb hsb
      have hS2 := Below.grown (hS1) hgb (by omega) (by intro g hg; injection hg with hg; omega)
      refine L.nil ?_
      refine ⟨fun _ => hS2, ?_⟩
      replace hra := hra.blkL hcl hgb (by omega)
      replace hRa := hRa.blkL hcl hgb
      try replace hcd := hcd.grown hgb (by intro h; injection h with h; omega)
      try replace hka := hka.grown hgb (by intro h; injection h with h; omega)
      refine D.va 4 rfl (by kernel_rfl) (fun _ _ _ h => h) rfl (fun w' hw => X.assign (by conv => lhs; whnf)) hS2 ?_
      refine D.done (by kernel_rfl) ?_
      replace hk35 := hk35.low hS2 (by omega)
      replace hk45 := hk45.low hS2 (by omega)
      refine J.ret ?_
      refine thn_ret <| ?_
      refine finCCT rfl (run_cell hka Tryd.underlying33 rfl (by kernel_rfl)) rfl (run_cell hkb Tryd.underlying42 rfl (by kernel_rfl)) ?_
      have he : Ext w _ := Below.trans he05 (Below.mono (hS2) (by omega))
      exact ⟨r, R, rfl, hra, hRa, rfl, rfl, he, fun g hg => .inl hg, Rk.CF.same rfl rfl, Rl.Gr.refl _ _⟩
    · have hn6 : zs.length ≤ 60000 := by omega
      obtain ⟨f, hf⟩ : ∃ f, f = frm smZ zs := ⟨_, rfl⟩
      have hfl : f.length = 8 + n := by rw [hf, frm_length smZ (fun _ => rfl) zs, hzl]
      obtain ⟨Lw, hLn⟩ : ∃ Lw, Lw = R.st.sm.length + (8 + n) := ⟨_, rfl⟩
      obtain ⟨first, hfi⟩ : ∃ x, x = R.st.sm.length / 991 := ⟨_, rfl⟩
      obtain ⟨k, hk⟩ : ∃ x, x = (Lw - 1) / 991 + 1 - first := ⟨_, rfl⟩
      have e : appL r.abs R.st zs = if R.st.ct * 991 < Lw ∨ 4611686018427387904 ≤ R.st.nx + ((k - 1 : Nat) : Int) then (r.abs, R.st, 12) else wrN r.abs { R.st with sm := R.st.sm ++ f } first k := by
        unfold appL
        rw [if_neg (fun q => q h0), if_neg (by omega)]
        dsimp only
        rw [← hf, hfl, ← hLn, ← hfi, show (Lw - 1) / 991 + 1 - first = k from hk.symm, show (Lw - 1) / 991 - first = k - 1 by omega]
      rw [e]
      have hk1 : 1 ≤ k := by omega
      refine J.skip ?_
      refine J.seq ?_
      refine J.region ?_
      refine L.bslice (vs := []) rfl Evs.nil rfl rfl rfl rfl Tryd.underlying39 sz_5 zr_5 (by decide) ?_
      intro b8 w6 hb8 hs6 hk8 he6
      have ho6 : w6.ownsRow w5.heap.size 5 1 (.slice (some ⟨b8, 0, none⟩) 0 0) 0 (nums .u8 []) := blk_own1 (q := 0) hk8 (by omega) (by decide) rfl
      have he06 := he05.trans he6
      have hr6 := (Reads.of_own (h.ext he06).hs)
      have hk46 := hk45.ext he6
      refine L.va rfl (X.fieldAddr rfl Tryd.underlying42 rfl sz_39 (by decide)) ?_
      refine L.va rfl (X.load rfl sc_39 (by first | exact Ld.blk hk46 rfl)) ?_
      refine L.appendQ (q := R.st.sm.length) (ys := R.st.sm) rfl rfl rfl Tryd.underlying39 el_5 (ho6) (hr6) (by omega) (by simp) (by unfold maxLen; omega) (by omega) ?_
      intro A7 c7 w7 ho7 hg7 hb7' hor7
      have he57 : Ext w5 w7 := he6.low hb7' (Nat.le_refl _)
      have he07 := he05.trans he57
      have z7 := he57.le
      refine L.va rfl (X.move (by conv => lhs; whnf)) ?_
      refine L.call rfl en_48 rfl (frefput_any A n c zs w7 (by omega) ((hr0.ext he07).more he07.le) hz) ?_
      rintro e w8 ⟨A8, c8, rfl, ho8, hb8'⟩
      refine ⟨_, rfl, ?_⟩
      have hb8' : Ext w7 w8 := hb8'
      rw [hzl, ← hf] at ho8
      rw [hzl]
      have z8 := hb8'.le
      refine L.appendQ (q := Lw) (ys := R.st.sm ++ f) rfl rfl rfl Tryd.underlying39 el_5 ((ho7.ext hb8')) ((Reads.of_own ho8)) (by omega) (by simp) (by unfold maxLen; omega) (by omega) ?_
      intro A9 c9 w9 ho9 hg9 hb9' hor9
      have he59 : Ext w5 w9 := (he57.trans hb8').low hb9' (Nat.le_refl _)
      have he09 := he05.trans he59
      have z9 := he59.le
      have hk39 := hk35.ext he59
      have hk49 := hk45.ext he59
      have hk69 := hk65.ext he59
      have hk79 := hk7.ext he59
      refine L.va rfl (X.assign (by conv => lhs; whnf)) ?_
      refine L.nil ?_
      refine J.seq ?_
      refine J.region ?_
      refine L.va rfl (X.fieldAddr rfl Tryd.underlying42 rfl sz_39 (by decide)) ?_
      refine L.va rfl (X.load rfl sc_39 (by first | exact Ld.blk hk39 rfl | exact Ld.blk hk49 rfl)) ?_
      refine L.va rfl (X.len rfl Tryd.underlying39) ?_
      refine L.va rfl (X.quo rfl rfl (by omega)) ?_
      refine L.va rfl (X.assign (by conv => lhs; whnf)) ?_
      refine L.nil ?_
      refine J.seq ?_
      refine J.region ?_
      refine L.va rfl (X.assign (by conv => lhs; whnf)) ?_
      refine L.nil ?_
      refine J.seq ?_
      refine J.seq ?_
      refine J.region ?_
      refine L.va rfl (X.move (by conv => lhs; whnf)) ?_
      refine L.va rfl (X.assign (by conv => lhs; whnf)) ?_
      refine L.nil ?_
      refine J.block ?_
      refine J.loop (X := Nat) [11, 12, 43, 44, 45, 46, 47, 48, 49, 50, 51] (fun i => [(11, .int .i64 (i : Int)), (12, .int .i64 ((first + i : Nat) : Int))]) (fun i w' => w' = w9 ∧ i ≤ k) (fun i => k - i) (0) (At2 (by first | rfl | exact at_int rfl (by omega) | exact at_slice rfl (by omega) | exact at_int rfl (by simp)) (by first | rfl | exact at_int rfl (by omega) | exact at_slice rfl (by omega) | exact at_int rfl (by simp))) ?_ ?_
      · exact ⟨rfl, Nat.zero_le _⟩
      · rintro i g w10 ⟨rfl, hik⟩
        refine J.seq ?_
        refine J.seq ?_
        refine J.region ?_
        refine L.va rfl (X.move (by conv => lhs; whnf)) ?_
        refine L.va rfl (X.mul rfl rfl (by omega)) ?_
        refine L.va rfl (X.move (by conv => lhs; whnf)) ?_
        refine L.va rfl (X.len rfl Tryd.underlying39) ?_
        refine L.va rfl (X.lss rfl rfl) ?_
        refine L.nil ?_
        refine J.dec rfl (fun hlt => ?_) (fun hlt => ?_)
        · refine J.skip ?_
          refine J.seq ?_
          refine J.block ?_
          refine J.region ?_
          refine L.va rfl (X.move (by conv => lhs; whnf)) ?_
          refine L.va rfl (X.add rfl rfl (by omega)) ?_
          refine L.va rfl (X.assign (by conv => lhs; whnf)) ?_
          refine L.nil ?_
          refine J.region ?_
          refine L.va rfl (X.move (by conv => lhs; whnf)) ?_
          refine L.va rfl (X.add rfl rfl (by omega)) ?_
          refine L.va rfl (X.assign (by conv => lhs; whnf)) ?_
          refine L.nil ?_
          refine ⟨i + 1, At2 (by first | rfl | exact at_int rfl (by omega) | exact at_slice rfl (by omega) | exact at_int rfl (by simp)) (by first | rfl | exact at_int rfl (by omega) | exact at_slice rfl (by omega) | exact at_int rfl (by simp)), (by (iterate 11 refine Agr.lk rfl ?_); exact Agr.lk rfl (Agr.hav rfl Agr.rfl')), ?_⟩
          exact ⟨⟨rfl, by omega⟩, by omega⟩
        · obtain rfl : i = k := by omega
          refine J.exit ?_
          refine J.seq ?_
          refine J.seq ?_
          refine J.region ?_
          refine L.va rfl (X.move (by conv => lhs; whnf)) ?_
          refine L.va rfl (X.len rfl Tryd.underlying39) ?_
          refine L.va rfl (X.fieldAddr rfl Tryd.underlying42 rfl sz_3 (by decide)) ?_
          refine L.va rfl (X.load rfl sc_3 (by first | exact Ld.blk hk39 rfl | exact Ld.blk hk49 rfl)) ?_
          refine L.va rfl (X.mul rfl rfl (by omega)) ?_
          refine L.va rfl (X.gtr rfl rfl) ?_
          refine L.va rfl (X.move (by conv => lhs; whnf)) ?_
          by_cases hfull : R.st.ct * 991 < Lw ∨ 4611686018427387904 ≤ R.st.nx + ((i - 1 : Nat) : Int)
          · rw [if_pos hfull]
            refine L.caseDec (k := 58) rfl (fun q1 => ?_) (fun q1 => ?_)
            · refine L.no rfl ?_
              refine L.no rfl ?_
              refine L.no rfl ?_
              refine L.no rfl ?_
              refine L.no rfl ?_
              refine L.no rfl ?_
              refine L.no rfl ?_
              refine L.va rfl (X.pickT rfl (by conv => lhs; whnf)) ?_
              refine L.nil ?_
              refine J.iteT rfl ?_
              refine J.seq ?_
              refine J.draw (ℓ := 1000000) (S := Below b6 w10) mixed (fun wx hSE hS_h => ?_)
              have hS : (Below b6 w10) wx := Below.mono hSE (by omega)
              have hcd := hk69.ext hSE
              have hcl := hk79.ext hSE
              have zx := hSE.le
              have hra := (hr.ext he09).ext hSE
              have hRa := (h.ext he09).ext hSE
              refine D.va 0 rfl (by kernel_rfl) (fun _ _ _ h => h) rfl (fun w' hw => (by first | exact X.loadAgg rfl (range_l (hk39.low hw (by omega))) Tryd.underlying33 rfl (by kernel_rfl) | exact X.loadAgg rfl (range_blk (hk39.low hw (by omega))) Tryd.underlying33 rfl (by kernel_rfl) | exact X.loadAgg rfl (range_l (hk49.low hw (by omega))) Tryd.underlying33 rfl (by kernel_rfl) | exact X.loadAgg rfl (range_blk (hk49.low hw (by omega))) Tryd.underlying33 rfl (by kernel_rfl))) hS ?_
              refine D.va 1 rfl (by kernel_rfl) (fun _ _ _ h => h) rfl (fun w' hw => (by first | exact X.loadAgg rfl (range_l (hk39.low hw (by omega))) Tryd.underlying42 rfl (by kernel_rfl) | exact X.loadAgg rfl (range_blk (hk39.low hw (by omega))) Tryd.underlying42 rfl (by kernel_rfl) | exact X.loadAgg rfl (range_l (hk49.low hw (by omega))) Tryd.underlying42 rfl (by kernel_rfl) | exact X.loadAgg rfl (range_blk (hk49.low hw (by omega))) Tryd.underlying42 rfl (by kernel_rfl))) hS ?_
              have zs := Below.size (hS)
              refine D.one 2 (by kernel_rfl) rfl ?_
              refine L.storeAgg (vs := [_, _, _, _, _, _, _]) rfl rfl rfl rfl sz_33 (hcd) rfl ?_
              intro wa hka hga hsa
              have hS1 := Below.grown (hS) hga (by omega) (by intro g hg; injection hg with hg; omega)
              refine L.nil ?_
              refine ⟨fun _ => hS1, ?_⟩
              replace hra := hra.blkL hcd hga (by omega)
              replace hRa := hRa.blkL hcd hga
              try replace hcl := hcl.grown hga (by intro h; injection h with h; omega)
              try replace hkb := hkb.grown hga (by intro h; injection h with h; omega)
              have zs := Below.size (hS1)
              refine D.one 3 (by kernel_rfl) rfl ?_
              refine L.storeAgg (vs := [_, _, _, _, _, _, _]) rfl rfl rfl rfl sz_42 (hcl) rfl ?_
              intro wb hkb hgb hsb
              have hS2 := Below.grown (hS1) hgb (by omega) (by intro g hg; injection hg with hg; omega)
              refine L.nil ?_
              refine ⟨fun _ => hS2, ?_⟩
              replace hra := hra.blkL hcl hgb (by omega)
              replace hRa := hRa.blkL hcl hgb
              try replace hcd := hcd.grown hgb (by intro h; injection h with h; omega)
              try replace hka := hka.grown hgb (by intro h; injection h with h; omega)
              refine D.va 4 rfl (by kernel_rfl) (fun _ _ _ h => h) rfl (fun w' hw => X.assign (by conv => lhs; whnf)) hS2 ?_
              refine D.done (by kernel_rfl) ?_
              replace hk39 := hk39.low hS2 (by omega)
              replace hk49 := hk49.low hS2 (by omega)
              refine J.ret ?_
              refine thn_ret <| ?_
              refine finCCT rfl (run_cell hka Tryd.underlying33 rfl (by kernel_rfl)) rfl (run_cell hkb Tryd.underlying42 rfl (by kernel_rfl)) ?_
              have he : Ext w _ := Below.trans he09 (Below.mono (hS2) (by omega))
              exact ⟨r, R, rfl, hra, hRa, rfl, rfl, he, fun g hg => .inl hg, Rk.CF.same rfl rfl, Rl.Gr.refl _ _⟩
            · refine L.va rfl (X.fieldAddr rfl Tryd.underlying42 rfl sz_35 (by decide)) ?_
              refine L.va rfl (X.load rfl sc_35 (by first | exact Ld.blk hk39 rfl | exact Ld.blk hk49 rfl)) ?_
              refine L.va rfl (X.move (by conv => lhs; whnf)) ?_
              refine L.va rfl ((by first | exact X.convU rfl is_3 Tryd.underlying35 (by omega) | exact X.convw rfl is_3 Tryd.underlying35)) ?_
              refine L.va rfl (X.addU rfl rfl (by omega)) ?_
              refine L.va rfl (X.subU rfl rfl (by omega)) ?_
              refine L.va rfl (X.geq rfl rfl) ?_
              refine L.va rfl (X.pickF rfl (by conv => lhs; whnf)) ?_
              refine L.nil ?_
              refine J.decT rfl (by omega) ?_
              refine J.seq ?_
              refine J.draw (ℓ := 1000000) (S := Below b6 w10) mixed (fun wx hSE hS_h => ?_)
              have hS : (Below b6 w10) wx := Below.mono hSE (by omega)
              have hcd := hk69.ext hSE
              have hcl := hk79.ext hSE
              have zx := hSE.le
              have hra := (hr.ext he09).ext hSE
              have hRa := (h.ext he09).ext hSE
              refine D.va 0 rfl (by kernel_rfl) (fun _ _ _ h => h) rfl (fun w' hw => (by first | exact X.loadAgg rfl (range_l (hk39.low hw (by omega))) Tryd.underlying33 rfl (by kernel_rfl) | exact X.loadAgg rfl (range_blk (hk39.low hw (by omega))) Tryd.underlying33 rfl (by kernel_rfl) | exact X.loadAgg rfl (range_l (hk49.low hw (by omega))) Tryd.underlying33 rfl (by kernel_rfl) | exact X.loadAgg rfl (range_blk (hk49.low hw (by omega))) Tryd.underlying33 rfl (by kernel_rfl))) hS ?_
              refine D.va 1 rfl (by kernel_rfl) (fun _ _ _ h => h) rfl (fun w' hw => (by first | exact X.loadAgg rfl (range_l (hk39.low hw (by omega))) Tryd.underlying42 rfl (by kernel_rfl) | exact X.loadAgg rfl (range_blk (hk39.low hw (by omega))) Tryd.underlying42 rfl (by kernel_rfl) | exact X.loadAgg rfl (range_l (hk49.low hw (by omega))) Tryd.underlying42 rfl (by kernel_rfl) | exact X.loadAgg rfl (range_blk (hk49.low hw (by omega))) Tryd.underlying42 rfl (by kernel_rfl))) hS ?_
              have zs := Below.size (hS)
              refine D.one 2 (by kernel_rfl) rfl ?_
              refine L.storeAgg (vs := [_, _, _, _, _, _, _]) rfl rfl rfl rfl sz_33 (hcd) rfl ?_
              intro wa hka hga hsa
              have hS1 := Below.grown (hS) hga (by omega) (by intro g hg; injection hg with hg; omega)
              refine L.nil ?_
              refine ⟨fun _ => hS1, ?_⟩
              replace hra := hra.blkL hcd hga (by omega)
              replace hRa := hRa.blkL hcd hga
              try replace hcl := hcl.grown hga (by intro h; injection h with h; omega)
              try replace hkb := hkb.grown hga (by intro h; injection h with h; omega)
              have zs := Below.size (hS1)
              refine D.one 3 (by kernel_rfl) rfl ?_
              refine L.storeAgg (vs := [_, _, _, _, _, _, _]) rfl rfl rfl rfl sz_42 (hcl) rfl ?_
              intro wb hkb hgb hsb
              have hS2 := Below.grown (hS1) hgb (by omega) (by intro g hg; injection hg with hg; omega)
              refine L.nil ?_
              refine ⟨fun _ => hS2, ?_⟩
              replace hra := hra.blkL hcl hgb (by omega)
              replace hRa := hRa.blkL hcl hgb
              try replace hcd := hcd.grown hgb (by intro h; injection h with h; omega)
              try replace hka := hka.grown hgb (by intro h; injection h with h; omega)
              refine D.va 4 rfl (by kernel_rfl) (fun _ _ _ h => h) rfl (fun w' hw => X.assign (by conv => lhs; whnf)) hS2 ?_
              refine D.done (by kernel_rfl) ?_
              replace hk39 := hk39.low hS2 (by omega)
              replace hk49 := hk49.low hS2 (by omega)
              refine J.ret ?_
              refine thn_ret <| ?_
              refine finCCT rfl (run_cell hka Tryd.underlying33 rfl (by kernel_rfl)) rfl (run_cell hkb Tryd.underlying42 rfl (by kernel_rfl)) ?_
              have he : Ext w _ := Below.trans he09 (Below.mono (hS2) (by omega))
              exact ⟨r, R, rfl, hra, hRa, rfl, rfl, he, fun g hg => .inl hg, Rk.CF.same rfl rfl, Rl.Gr.refl _ _⟩
          · rw [if_neg hfull]
            refine L.caseDecF (k := 58) rfl (by omega) ?_
            refine L.va rfl (X.fieldAddr rfl Tryd.underlying42 rfl sz_35 (by decide)) ?_
            refine L.va rfl (X.load rfl sc_35 (by first | exact Ld.blk hk39 rfl | exact Ld.blk hk49 rfl)) ?_
            refine L.va rfl (X.move (by conv => lhs; whnf)) ?_
            refine L.va rfl ((by first | exact X.convU rfl is_3 Tryd.underlying35 (by omega) | exact X.convw rfl is_3 Tryd.underlying35)) ?_
            refine L.va rfl (X.addU rfl rfl (by omega)) ?_
            refine L.va rfl (X.subU rfl rfl (by omega)) ?_
            refine L.va rfl (X.geq rfl rfl) ?_
            refine L.va rfl (X.pickF rfl (by conv => lhs; whnf)) ?_
            refine L.nil ?_
            refine J.decF rfl (by omega) ?_
            refine J.skip ?_
            refine J.seq ?_
            refine J.region ?_
            refine L.va rfl (X.move (by conv => lhs; whnf)) ?_
            refine L.va rfl (X.fieldAddr rfl Tryd.underlying42 rfl sz_39 (by decide)) ?_
            obtain ⟨l1, hl1⟩ : ∃ l1 : Ls, l1 = { R.st with sm := R.st.sm ++ f } := ⟨_, rfl⟩
            rw [← hl1]
            obtain ⟨W, hW⟩ : ∃ W, W = wrN r.abs l1 first i := ⟨_, rfl⟩
            rw [← hW]
            have hsl1 : l1.sm.length = Lw := by rw [hl1]; show (R.st.sm ++ f).length = Lw; rw [List.length_append, hfl, hLn]
            have b34 : b3 ≠ b4 := by omega
            have b46 : b4 ≠ b6 := by omega
            have b47 : b4 ≠ b7 := by omega
            have b36 : b3 ≠ b6 := by omega
            have b37 : b3 ≠ b7 := by omega
            have nb : ∀ {x y : Nat}, x ≠ y → some x ≠ some y := fun hh e => hh (by injection e)
            have hb3w : w.heap.size ≤ b3 := by omega
            have hb4w : w.heap.size ≤ b4 := by omega
            refine L.store rfl rfl (by conv => lhs; whnf) rfl sz_39 (hk49) (by first | decide | exact Nat.le_of_ble_eq_true rfl) ?_
            intro w11 hk411 hg11 hs11
            have hk411 : Blk w11 b4 42 #[.int .i64 (R.st.fr : Int), .int .i64 (R.st.ct : Int), .int .u64 R.st.ep, .int .u64 R.st.nx, .slice A9 Lw c9, R.ts, .int .i64 R.st.bad] := hk411
            have hk311 := hk39.grown hg11 (nb b34)
            have hk611 := hk69.grown hg11 (nb b46.symm)
            have hk711 := hk79.grown hg11 (nb b47.symm)
            have z11 := hg11.size
            have he011 : Ext w w11 := he09.grw hg11 (by intro g hg; injection hg with hg; omega)
            have hl1f : l1.fr = R.st.fr ∧ l1.ct = R.st.ct ∧ l1.ep = R.st.ep ∧ l1.nx = R.st.nx ∧ l1.tm = R.st.tm ∧ l1.bad = R.st.bad ∧ l1.sm = R.st.sm ++ f := by rw [hl1]; exact ⟨rfl, rfl, rfl, rfl, rfl, rfl, rfl⟩
            obtain ⟨l1a, l1b, l1c, l1d, l1e, l1g, l1h⟩ := hl1f
            have ho11 := ho9.kept hg11 (.inr (own_blk_ne ho9 hk49 (by decide)))
            have M0 : RMid r R l1 N first i m b3 b4 b6 b7 A9 c9 w 0 r ⟨A9, c9, R.tA, R.tc, l1⟩ w11 := by
              refine ⟨Nat.zero_le _, by rw [Nat.add_zero, Nat.sub_zero], rfl, rfl, ⟨rfl, rfl, rfl, by show l1.nx = l1.nx + ((0 : Nat) : Int); omega, rfl, rfl, ?_, ?_⟩, ?_, hok, ?_, ⟨?_, ?_⟩, hk311, ?_, hk611, hk711, he011, fun g hg => .inl hg, Rk.CF.same rfl rfl, ⟨fun g hg => ?_, fun g hg => ?_⟩⟩
              · rw [l1e]; omega
              · rw [l1e]; exact htt
              · show 0 ≤ l1.nx; rw [l1d]; omega
              · exact (hr.ext he09).blkL hk49 hg11 (by omega)
              · show World.ownsRow _ _ _ _ (.slice A9 l1.sm.length c9) l1.sm.length (nums .u8 l1.sm)
                rw [hsl1, l1h]
                exact ho11.mono (by omega)
              · show World.ownsRow _ _ _ _ (.slice R.tA l1.tm.length R.tc) l1.tm.length (nums .u64 l1.tm)
                rw [l1e]
                exact ((h.ext he09).blkL hk49 hg11).ht
              · show Blk w11 b4 42 #[.int .i64 (l1.fr : Int), .int .i64 (l1.ct : Int), .int .u64 l1.ep, .int .u64 l1.nx, .slice A9 l1.sm.length c9, .slice R.tA l1.tm.length R.tc, .int .i64 l1.bad]
                rw [l1a, l1b, l1c, l1d, l1e, l1g, hsl1]
                exact hk411
              · have hg : Value.ownBlock (.slice A9 l1.sm.length c9) = some g := hg
                rw [ob_len A9 l1.sm.length c9 Lw c9] at hg
                exact .inr (Nat.le_trans z05 (own_isT ho9 hg).2)
              · have hg : Value.ownBlock (.slice R.tA l1.tm.length R.tc) = some g := hg
                rw [l1e] at hg
                exact .inl hg
            have hLb : first ≤ 20000 ∧ Lw ≤ 9000000 ∧ i ≤ 20000 := by omega
            have hc9 := own_bd ho9
            have hby1 : Bytes l1.sm := by
              rw [l1h]
              intro z hz'
              rcases List.mem_append.1 hz' with q | q
              · exact hsb z q
              · rw [hf] at q; exact frm_bytes _ hz z q
            refine L.nil ?_
            refine J.seq ?_
            refine J.seq ?_
            refine J.region ?_
            refine L.va rfl (X.move (by conv => lhs; whnf)) ?_
            refine L.va rfl (X.assign (by conv => lhs; whnf)) ?_
            refine L.nil ?_
            refine J.block ?_
            refine J.loop (X := Nat × Rk × Rl) [8, 13, 14, 15, 16, 17, 18, 72, 73, 74, 75, 76, 77, 78, 79, 80, 81, 82, 83, 84, 85, 86, 87, 88, 89, 90, 91, 92, 93, 94, 95, 96, 97, 98, 99, 100, 101, 102, 103, 104, 105, 106, 107, 108, 109, 110, 111, 112, 113, 114, 115, 116, 117, 118, 119, 120, 121, 122, 123, 124, 125, 126, 127, 128, 129, 130, 131, 132, 133, 134, 135, 136, 137, 138, 139] (fun (j, s, Q) => [(13, .int .i64 ((first + j : Nat) : Int))]) (fun (j, s, Q) w' => RMid r R l1 N first i m b3 b4 b6 b7 A9 c9 w j s Q w') (fun (j, _) => i - j) ((0, r, ⟨A9, c9, R.tA, R.tc, l1⟩)) (At1 (by first | rfl | exact at_int rfl (by omega) | exact at_slice rfl (by omega) | exact at_int rfl (by simp))) ?_ ?_
            · exact M0
            · rintro ⟨j, s, Q⟩ g w12 M
              dsimp only at M
              have q3 := M.k3
              have q4 := M.k4
              have q6 := M.k6
              have q7 := M.k7
              have jk := M.jk
              have qwr := M.wr
              have qnx := qwr.nx
              have qfr := qwr.fr
              have qct := qwr.ct
              have qep := qwr.ep
              have qsm := qwr.sm
              have qtl := qwr.tl
              have qn1 := M.n1
              have he12 := M.he
              have z12 := he12.le
              have hs12 := Reads.of_own M.h.hs
              have ht12 := Reads.of_own M.h.ht
              have tbd := own_bd M.h.ht
              have hN12 := M.hr.hN
              have hb7lt := q7.lt
              refine J.seq ?_
              refine J.seq ?_
              refine J.region ?_
              refine L.va rfl (X.move (by conv => lhs; whnf)) ?_
              refine L.va rfl (X.move (by conv => lhs; whnf)) ?_
              refine L.va rfl (X.move (by conv => lhs; whnf)) ?_
              refine L.va rfl (X.add rfl rfl (by omega)) ?_
              refine L.va rfl (X.lss rfl rfl) ?_
              refine L.nil ?_
              refine J.dec rfl (fun hlt => ?_) (fun hlt => ?_)
              · have hlt : j < i := by omega
                obtain ⟨p, hp⟩ : ∃ p, p = prevL Q.st (first + j) := ⟨_, rfl⟩
                have hpb : 0 ≤ p ∧ p ≤ 4611686018427387904 := by
                  rw [hp, prevL]
                  split
                  · omega
                  · refine qwr.tt _ ?_
                    rw [List.getD, List.getElem?_eq_getElem (by omega)]
                    exact List.getElem_mem _
                refine J.skip ?_
                refine J.seq ?_
                refine J.block ?_
                refine J.seq ?_
                refine J.region ?_
                refine L.va rfl (X.assign (by conv => lhs; whnf)) ?_
                refine L.nil ?_
                refine J.cut (X := Unit) [14, 79, 80, 81, 82, 83, 84, 85, 86] (fun _ => [(14, .int .u64 p)]) (fun _ w' => w' = w12) ?_ ?_
                · refine J.seq ?_
                  refine J.region ?_
                  refine L.va rfl (X.move (by conv => lhs; whnf)) ?_
                  refine L.va rfl (X.gtr rfl rfl) ?_
                  refine L.nil ?_
                  refine J.dec rfl (fun hi0 => ?_) (fun hi0 => ?_)
                  · obtain ⟨kk, hkk⟩ : ∃ kk, first + j = kk + 1 := ⟨first + j - 1, by omega⟩
                    have ep' : p = Q.st.tm.getD (((first + j : Nat) : Int) - 1).toNat 0 := by
                      rw [hp, prevL, if_neg (by omega), show (((first + j : Nat) : Int) - 1).toNat = first + j - 1 by omega]
                    have hA := ht12.some_ (by omega)
                    rw [ep']
                    refine J.region ?_
                    refine L.va rfl (X.fieldAddr rfl Tryd.underlying42 rfl sz_40 (by decide)) ?_
                    refine L.va rfl (X.load rfl sc_40 (by first | exact Ld.blk q3 rfl | exact Ld.blk q4 rfl | exact Ld.num ht12 (by omega) | exact hA)) ?_
                    refine L.va rfl (X.move (by conv => lhs; whnf)) ?_
                    refine L.va rfl (X.sub rfl rfl (by omega)) ?_
                    refine L.va rfl ((by first | exact X.index1n rfl rfl Tryd.underlying40 sz_35 (by first | exact Option.some_ne_none _ | exact ht12.some_ (by omega) | exact hA) (by omega) | exact X.index1 rfl rfl Tryd.underlying40 sz_35 (by first | exact Option.some_ne_none _ | exact ht12.some_ (by omega) | exact hA) (by omega))) ?_
                    refine L.va rfl (X.load rfl sc_35 (by first | exact Ld.blk q3 rfl | exact Ld.blk q4 rfl | exact Ld.num ht12 (by omega) | exact hA)) ?_
                    refine L.va rfl (X.assign (by conv => lhs; whnf)) ?_
                    refine L.nil ?_
                    refine ⟨(), At1 (by first | rfl | exact at_int rfl (by omega) | exact at_slice rfl (by omega) | exact at_int rfl (by simp)), (by (iterate 9 refine Agr.lk rfl ?_); exact Agr.rfl'), ?_⟩
                    rfl
                  · have e0 : p = 0 := by rw [hp, prevL, if_pos (by omega)]
                    rw [e0]
                    refine J.skip ?_
                    refine ⟨(), At1 (by first | rfl | exact at_int rfl (by omega) | exact at_slice rfl (by omega) | exact at_int rfl (by simp)), (by (iterate 2 refine Agr.lk rfl ?_); exact Agr.rfl'), ?_⟩
                    rfl
                · rintro _ g w13 rfl
                  have hbd : (shB (first + j) p (chunk Q.st (first + j))).length ≤ 1001 := by have := chunk_le Q.st (first + j); unfold shB; simp only [List.length_append, be_length]; omega
                  have hQl : Q.st.sm.length = Lw := by rw [qsm]; exact hsl1
                  have hss : Q.ss = .slice A9 Lw c9 := by unfold Rl.ss; rw [M.sA, M.sc, hQl]
                  have hrs : Reads w13 w13.heap.size 1 A9 Lw (nums .u8 Q.st.sm) := by rw [M.sA, hQl] at hs12; exact hs12
                  obtain ⟨a, ha⟩ : ∃ a, a = (991 * ((first + j : Nat) : Int)).toNat := ⟨_, rfl⟩
                  obtain ⟨e, he⟩ : ∃ e, e = (min (991 * ((first + j : Nat) : Int) + 991) (Lw : Int)).toNat := ⟨_, rfl⟩
                  have ea : a = (first + j) * 991 := by omega
                  have ej : e = min (((first + j) + 1) * 991) Lw := by omega
                  have hlj : (first + j) * 991 < Lw := by omega
                  have ec : (Q.st.sm.drop a).take (e - a) = chunk Q.st (first + j) := by
                    unfold chunk
                    rw [ea, List.take_eq_take_iff, List.length_drop]
                    omega
                  have hrd := part_nums (i := a) (j := e) hrs (by omega) (by omega) hc9.1
                  rw [ec] at hrd
                  have hcb : Bytes (chunk Q.st (first + j)) := chunk_bytes (by rw [qsm]; exact hby1) (first + j)
                  have hz13 := M.hr.hN
                  have K103 := fun (w' : World) (hw : Ext w13 w') => sheet22 Q.st.ep Q.st.nx (first + j) p (if c9 = a then A9 else A9.map (·.add (a * 1))) (e - a) (c9 - a) (chunk Q.st (first + j)) w' ((hrd.ext hw).more hw.le) (by omega) (by omega) ⟨hpb.1, by omega⟩
                  refine J.cut (X := Nat × Option Addr × Nat) [15, 87, 88, 89, 90, 91, 92, 93, 94, 95, 96, 97, 98, 99, 100, 101, 102, 103] (fun (b15, A15, c15) => [(15, .pointer (some ⟨b15, 0, none⟩))]) (fun (b15, A15, c15) w' => Blk w' b15 75 #[.int .i64 1, .int .u64 Q.st.ep, .int .u64 Q.st.nx, .slice A15 (shB (first + j) p (chunk Q.st (first + j))).length c15] ∧ w'.ownsRow w13.heap.size 5 1 (.slice A15 (shB (first + j) p (chunk Q.st (first + j))).length c15) (shB (first + j) p (chunk Q.st (first + j))).length (nums .u8 (shB (first + j) p (chunk Q.st (first + j)))) ∧ Ext w13 w') ?_ ?_
                  ·
                    refine J.draw (ℓ := 1000000) (S := Ext w13) mixed (fun w14 hS hS_h => ?_)
                    refine D.va 0 rfl (by kernel_rfl) (fun _ _ _ h => h) rfl (fun w' hw => X.fieldAddr rfl Tryd.underlying42 rfl sz_35 (by decide)) hS ?_
                    refine D.va 1 rfl (by kernel_rfl) (fun _ _ _ h => h) rfl (fun w' hw => X.load rfl sc_35 (by first | exact Ld.blk (q3.ext hw) rfl | exact Ld.blk (q4.ext hw) rfl)) hS ?_
                    refine D.va 2 rfl (by kernel_rfl) (fun _ _ _ h => h) rfl (fun w' hw => X.fieldAddr rfl Tryd.underlying42 rfl sz_35 (by decide)) hS ?_
                    refine D.va 3 rfl (by kernel_rfl) (fun _ _ _ h => h) rfl (fun w' hw => X.load rfl sc_35 (by first | exact Ld.blk (q3.ext hw) rfl | exact Ld.blk (q4.ext hw) rfl)) hS ?_
                    refine D.va 4 rfl (by kernel_rfl) (fun _ _ _ h => h) rfl (fun w' hw => X.move (by conv => lhs; whnf)) hS ?_
                    refine D.va 5 rfl (by kernel_rfl) (fun _ _ _ h => h) rfl (fun w' hw => X.move (by conv => lhs; whnf)) hS ?_
                    refine D.va 6 rfl (by kernel_rfl) (fun _ _ _ h => h) rfl (fun w' hw => X.move (by conv => lhs; whnf)) hS ?_
                    refine D.va 7 rfl (by kernel_rfl) (fun _ _ _ h => h) rfl (fun w' hw => X.move (by conv => lhs; whnf)) hS ?_
                    refine D.va 8 rfl (by kernel_rfl) (fun _ _ _ h => h) rfl (fun w' hw => X.mul rfl rfl (by omega)) hS ?_
                    refine D.va 9 rfl (by kernel_rfl) (fun _ _ _ h => h) rfl (fun w' hw => X.move (by conv => lhs; whnf)) hS ?_
                    refine D.va 10 rfl (by kernel_rfl) (fun _ _ _ h => h) rfl (fun w' hw => X.mul rfl rfl (by omega)) hS ?_
                    refine D.va 11 rfl (by kernel_rfl) (fun _ _ _ h => h) rfl (fun w' hw => X.add rfl rfl (by omega)) hS ?_
                    refine D.va 12 rfl (by kernel_rfl) (fun _ _ _ h => h) rfl (fun w' hw => X.move (by conv => lhs; whnf)) hS ?_
                    refine D.va 13 rfl (by kernel_rfl) (fun _ _ _ h => h) rfl (fun w' hw => X.len rfl Tryd.underlying39) hS ?_
                    refine D.va 14 rfl (by kernel_rfl) (fun _ _ _ h => h) rfl (fun w' hw => X.min2 rfl rfl) hS ?_
                    refine D.va 15 rfl (by kernel_rfl) (fun _ _ _ h => h) rfl (fun w' hw => (by first | exact X.slicen rfl rfl rfl Tryd.underlying39 sz_5 (by omega) | exact X.slice rfl rfl rfl Tryd.underlying39 sz_5 (by omega))) hS ?_
                    rw [← ha, ← he]
                    refine D.two 16 17 (by kernel_rfl) rfl rfl ?_ ?_
                    · have zS := (hS).le
                      refine L.call rfl en_29 rfl ((K103 _ (hS))) ?_
                      rintro e wA ⟨A15, c15, rfl, ho15, he15⟩
                      refine ⟨_, rfl, ?_⟩
                      have hS1 := (hS).trans he15
                      refine L.nil ?_
                      refine ⟨fun _ => hS1, ?_⟩
                      have ho15 := ho15.mono zS
                      try replace hk15 := hk15.ext he15
                      have z15 := (hS1).le
                      refine D.one 17 (by kernel_rfl) rfl ?_
                      refine L.alloc rfl zr_75 ?_
                      intro b15 wB hb15 hs15 hk15 he15b
                      have hS2 := (hS1).trans he15b
                      refine L.nil ?_
                      refine ⟨fun _ => hS2, ?_⟩
                      try replace ho15 := ho15.ext he15b
                      have zS := (hS2).le
                      refine D.one 18 (by kernel_rfl) rfl ?_
                      refine L.storeAgg (vs := [_, _, _, _]) rfl rfl rfl rfl sz_75 (hk15) rfl ?_
                      intro wC hkC hgC hsC
                      have hS3 := (hS2).grw hgC (by intro g hg; injection hg with hg; omega)
                      refine L.nil ?_
                      refine ⟨fun _ => hS3, ?_⟩
                      have ho15C := ho15.kept hgC (.inr (own_blk_ne ho15 hk15 (by decide)))
                      refine D.done (by kernel_rfl) ?_
                      replace q3 := q3.ext hS3
                      replace q4 := q4.ext hS3
                      refine ⟨(b15, A15, c15), At1 (by first | rfl | exact at_int rfl (by omega) | exact at_slice rfl (by omega) | exact at_int rfl (by simp)), (by (iterate 18 refine Agr.lk rfl ?_); exact Agr.rfl'), ?_⟩
                      exact ⟨hkC, ho15C, hS3⟩
                    · have z15 := (hS).le
                      refine L.alloc rfl zr_75 ?_
                      intro b15 wB hb15 hs15 hk15 he15b
                      have hS1 := (hS).trans he15b
                      refine L.nil ?_
                      refine ⟨fun _ => hS1, ?_⟩
                      try replace ho15 := ho15.ext he15b
                      have zS := (hS1).le
                      refine D.one 16 (by kernel_rfl) rfl ?_
                      refine L.call rfl en_29 rfl ((K103 _ (hS1))) ?_
                      rintro e wA ⟨A15, c15, rfl, ho15, he15⟩
                      refine ⟨_, rfl, ?_⟩
                      have hS2 := (hS1).trans he15
                      refine L.nil ?_
                      refine ⟨fun _ => hS2, ?_⟩
                      have ho15 := ho15.mono zS
                      try replace hk15 := hk15.ext he15
                      have zS := (hS2).le
                      refine D.one 18 (by kernel_rfl) rfl ?_
                      refine L.storeAgg (vs := [_, _, _, _]) rfl rfl rfl rfl sz_75 (hk15) rfl ?_
                      intro wC hkC hgC hsC
                      have hS3 := (hS2).grw hgC (by intro g hg; injection hg with hg; omega)
                      refine L.nil ?_
                      refine ⟨fun _ => hS3, ?_⟩
                      have ho15C := ho15.kept hgC (.inr (own_blk_ne ho15 hk15 (by decide)))
                      refine D.done (by kernel_rfl) ?_
                      replace q3 := q3.ext hS3
                      replace q4 := q4.ext hS3
                      refine ⟨(b15, A15, c15), At1 (by first | rfl | exact at_int rfl (by omega) | exact at_slice rfl (by omega) | exact at_int rfl (by simp)), (by (iterate 18 refine Agr.lk rfl ?_); exact Agr.rfl'), ?_⟩
                      exact ⟨hkC, ho15C, hS3⟩
                  · rintro ⟨b15, A15, c15⟩ g w14 ⟨hk15, ho15, he14⟩
                    have he14 : Ext w13 w14 := he14
                    have hk15 : Blk w14 b15 75 #[.int .i64 1, .int .u64 Q.st.ep, .int .u64 Q.st.nx, .slice A15 (shB (first + j) p (chunk Q.st (first + j))).length c15] := hk15
                    have q34 := q3.ext he14
                    have q44 := q4.ext he14
                    have q64 := q6.ext he14
                    have q74 := q7.ext he14
                    have z14 := he14.le
                    have hbb : Bytes (shB (first + j) p (chunk Q.st (first + j))) := shB_bytes hcb
                    obtain ⟨z, hzz⟩ : ∃ z, z = secL Q.st.ep Q.st.nx (shB (first + j) p (chunk Q.st (first + j))) := ⟨_, rfl⟩
                    have e16 : sec 1 Q.st.ep Q.st.nx (shB (first + j) p (chunk Q.st (first + j))) (smZ (hd 1 Q.st.ep Q.st.nx (shB (first + j) p (chunk Q.st (first + j))))) = z := by rw [hzz]; rfl
                    have hzl' : z.length = 1024 := by rw [hzz]; exact secL_len _ _ _ hbd
                    have hzb : Bytes z := by
                      rw [hzz]
                      intro y hy
                      unfold secL sec at hy
                      rcases List.mem_append.1 hy with hy | hy
                      · exact hd_bytes _ _ _ _ (by decide) hbb y hy
                      · exact smZ_bytes _ y hy
                    obtain ⟨Dq, hD⟩ : ∃ Dq, Dq = s.abs.do_ ⟨1, ((Q.st.fr + (first + j) : Nat) : Int), z, true, []⟩ := ⟨_, rfl⟩
                    have wr : wrL s.abs Q.st (first + j) = (Dq.1, if Dq.2.2 = 0 then { Q.st with tm := Q.st.tm.take (first + j) ++ [Q.st.nx], nx := Q.st.nx + 1 } else Q.st, Dq.2.2) := by
                      unfold wrL
                      rw [← hp, ← hzz, ← hD]
                    have wN : W = if Dq.2.2 = 0 then wrN Dq.1 { Q.st with tm := Q.st.tm.take (first + j) ++ [Q.st.nx], nx := Q.st.nx + 1 } (first + j + 1) (i - (j + 1)) else (Dq.1, { Q.st with bad := Dq.2.2 }, Dq.2.2) := by
                      rw [hW, M.eq, show i - j = i - (j + 1) + 1 by omega]
                      show (if (wrL s.abs Q.st (first + j)).2.2 = 0 then wrN (wrL s.abs Q.st (first + j)).1 (wrL s.abs Q.st (first + j)).2.1 (first + j + 1) (i - (j + 1)) else ((wrL s.abs Q.st (first + j)).1, { (wrL s.abs Q.st (first + j)).2.1 with bad := (wrL s.abs Q.st (first + j)).2.2 }, (wrL s.abs Q.st (first + j)).2.2)) = _
                      rw [wr]
                      dsimp only
                      by_cases hD0 : Dq.2.2 = 0
                      · rw [if_pos hD0, if_pos hD0, if_pos hD0]
                      · rw [if_neg hD0, if_neg hD0, if_neg hD0]
                    have hs14 := M.hr.ext he14
                    have ecast : (Q.st.fr : Int) + ((first + j : Nat) : Int) = ((Q.st.fr + (first + j) : Nat) : Int) := by omega
                    have eD : ∀ (A16 : Option Addr) (c16 : Nat), s.abs.do_ (Dm.dd ⟨1, (Q.st.fr : Int) + ((first + j : Nat) : Int), A16, 1024, c16, false, none, 0, 0, z, []⟩) = Dq := fun A16 c16 => by
                      rw [hD, show Dm.dd ⟨1, (Q.st.fr : Int) + ((first + j : Nat) : Int), A16, 1024, c16, false, none, 0, 0, z, []⟩ = ⟨1, ((Q.st.fr + (first + j) : Nat) : Int), z, false, []⟩ from by unfold Dm.dd; rw [ecast]]
                      exact do_odd s.abs 1 _ z [] (fun _ => hzl')
                    have K111 := fun (w' : World) (hw : Ext w14 w') => frefput20 1 Q.st.ep Q.st.nx A15 (shB (first + j) p (chunk Q.st (first + j))).length c15 (shB (first + j) p (chunk Q.st (first + j))) w' (by decide) (by decide) (by omega) (by omega) (by omega) (by omega) hbd (Reads.of_own (ho15.ext hw)) hbb
                    have K113 : ∀ (w' : World), Ext w14 w' → ∀ (A16 : Option Addr) (c16 : Nat), Reads w' w'.heap.size 1 A16 1024 (nums .u8 z) → Calls Tryd.prog 18 #[s.v, .agg #[.int .i64 1, .int .i64 ((Q.st.fr : Int) + ((first + j : Nat) : Int)), .slice A16 1024 c16, .bool false, .slice none 0 0]] w' fun e w'' => ∃ (s' : Rk) (Ao : Option Addr) (no co : Nat), e = .returned (.tuple #[s'.v, .slice Ao no co, .int .i64 Dq.2.2]) ∧ s'.At N w'' ∧ s'.abs = Dq.1 ∧ Ext w' w'' ∧ Rk.Fr s' s w' ∧ Rk.CF s' s w' := fun w' hw A16 c16 hr16 =>
                      ((hs14.ext hw).doC (m := m + j) M.ok (by omega) ⟨1, (Q.st.fr : Int) + ((first + j : Nat) : Int), A16, 1024, c16, false, none, 0, 0, z, []⟩ (M := w'.heap.size) (Nat.le_refl _) ⟨hr16, Reads.none_, hzb, by dsimp only; omega, by unfold maxLen; dsimp only; omega⟩ (fun hh => by cases hh) (by show 1024 ≤ _; omega) (by show 0 ≤ _; omega)).mono fun e w'' ⟨r', Ao, no, co, h1, h2, h3, h4, h5, h6, h7⟩ => ⟨r', Ao, no, co, by rw [eD] at h1; exact h1, h2, by rw [eD] at h3; exact h3, h5, h6, h7.1 rfl⟩
                    refine J.cut (X := Rk × Nat) [16, 17, 18, 104, 105, 106, 107, 108, 109, 110, 111, 112, 113, 114, 115, 116] (fun (s', b16) => [(16, .pointer (some ⟨b16, 0, none⟩)), (18, .int .i64 Dq.2.2)]) (fun (s', b16) w' => s'.At N w' ∧ s'.abs = Dq.1 ∧ Blk w' b16 33 #[s'.K, s'.P, .bool s'.off, .int .i64 s'.left, .int .i64 s'.rd, .int .i64 s'.wr, .int .i64 s'.fl] ∧ Ext w14 w' ∧ Rk.Fr s' s w14 ∧ Rk.CF s' s w14) ?_ ?_
                    · refine J.draw (ℓ := 1000000) (S := Ext w14) mixed (fun w15 hS hS_h => ?_)
                      refine D.va 0 rfl (by kernel_rfl) (fun _ _ _ h => h) rfl (fun w' hw => (by first | exact X.loadAgg rfl (range_l (q34.ext hw)) Tryd.underlying33 rfl (by kernel_rfl) | exact X.loadAgg rfl (range_blk (q34.ext hw)) Tryd.underlying33 rfl (by kernel_rfl) | exact X.loadAgg rfl (range_l (q44.ext hw)) Tryd.underlying33 rfl (by kernel_rfl) | exact X.loadAgg rfl (range_blk (q44.ext hw)) Tryd.underlying33 rfl (by kernel_rfl) | exact X.loadAgg rfl (range_l (hk15.ext hw)) Tryd.underlying33 rfl (by kernel_rfl) | exact X.loadAgg rfl (range_blk (hk15.ext hw)) Tryd.underlying33 rfl (by kernel_rfl))) hS ?_
                      refine D.va 1 rfl (by kernel_rfl) (fun _ _ _ h => h) rfl (fun w' hw => X.fieldAddr rfl Tryd.underlying42 rfl sz_3 (by decide)) hS ?_
                      refine D.va 2 rfl (by kernel_rfl) (fun _ _ _ h => h) rfl (fun w' hw => X.load rfl sc_3 (by first | exact Ld.blk (q34.ext hw) rfl | exact Ld.blk (q44.ext hw) rfl | exact Ld.blk (hk15.ext hw) rfl)) hS ?_
                      refine D.va 3 rfl (by kernel_rfl) (fun _ _ _ h => h) rfl (fun w' hw => X.move (by conv => lhs; whnf)) hS ?_
                      refine D.va 4 rfl (by kernel_rfl) (fun _ _ _ h => h) rfl (fun w' hw => X.add rfl rfl (by omega)) hS ?_
                      refine D.va 5 rfl (by kernel_rfl) (fun _ _ _ h => h) rfl (fun w' hw => (by first | exact X.loadAgg rfl (range_l (q34.ext hw)) Tryd.underlying75 rfl (by kernel_rfl) | exact X.loadAgg rfl (range_blk (q34.ext hw)) Tryd.underlying75 rfl (by kernel_rfl) | exact X.loadAgg rfl (range_l (q44.ext hw)) Tryd.underlying75 rfl (by kernel_rfl) | exact X.loadAgg rfl (range_blk (q44.ext hw)) Tryd.underlying75 rfl (by kernel_rfl) | exact X.loadAgg rfl (range_l (hk15.ext hw)) Tryd.underlying75 rfl (by kernel_rfl) | exact X.loadAgg rfl (range_blk (hk15.ext hw)) Tryd.underlying75 rfl (by kernel_rfl))) hS ?_
                      refine D.two 6 13 (by kernel_rfl) rfl rfl ?_ ?_
                      · refine L.call rfl en_30 rfl ((K111 _ (hS))) ?_
                        rintro e wA ⟨A16, c16, rfl, ho16, he16⟩
                        refine ⟨_, rfl, ?_⟩
                        have hS1 := (hS).trans he16
                        refine L.nil ?_
                        refine ⟨fun _ => hS1, ?_⟩
                        rw [e16] at ho16
                        try replace hk16 := hk16.ext he16
                        refine D.va 7 rfl (by kernel_rfl) (fun _ _ _ h => h) rfl (fun w' hw => X.build (l := [.int .i64 1, .int .i64 ((Q.st.fr : Int) + ((first + j : Nat) : Int)), .slice A16 1024 c16, .bool false, .slice none 0 0]) (Evs.cons rfl (Evs.cons rfl (Evs.cons rfl Evs.nil))) (bld_run Tryd.underlying58 (bp_58 Tryd.underlying58) zr_58 rfl)) hS1 ?_
                        refine D.two 8 13 (by kernel_rfl) rfl rfl ?_ ?_
                        · have zS := (hS1).le
                          refine L.call rfl en_18 rfl ((K113 _ (hS1) A16 c16 (Reads.of_own ho16))) ?_
                          rintro e wB ⟨s', Ao, no, co, rfl, k1, k2, k4, k5, k6⟩
                          refine ⟨_, rfl, ?_⟩
                          have hS2 := (hS1).trans k4
                          refine L.nil ?_
                          refine ⟨fun _ => hS2, ?_⟩
                          have k5 : Rk.Fr s' s w14 := fun g hg => (k5 g hg).imp id (fun hh => by omega)
                          have k6 : Rk.CF s' s w14 := fun x hx => (k6 x hx).imp id (fun hh => ⟨fun g hg => Nat.le_trans zS (hh.1 g hg), hh.2⟩)
                          have k4 : Ext _ wB := k4
                          try replace hk16 := hk16.ext k4
                          refine D.va 9 rfl (by kernel_rfl) (fun _ _ _ h => h) rfl (fun w' hw => X.move (by conv => lhs; whnf)) hS2 ?_
                          refine D.va 10 rfl (by kernel_rfl) (fun _ _ _ h => h) rfl (fun w' hw => X.extract rfl rfl) hS2 ?_
                          refine D.va 11 rfl (by kernel_rfl) (fun _ _ _ h => h) rfl (fun w' hw => X.extract rfl rfl) hS2 ?_
                          refine D.va 12 rfl (by kernel_rfl) (fun _ _ _ h => h) rfl (fun w' hw => X.extract rfl rfl) hS2 ?_
                          have z16 := (hS2).le
                          refine D.one 13 (by kernel_rfl) rfl ?_
                          refine L.alloc rfl zr_33 ?_
                          intro b16 wC hb16 hs16 hk16 he16b
                          have hS3 := (hS2).trans he16b
                          refine L.nil ?_
                          refine ⟨fun _ => hS3, ?_⟩
                          try replace ho16 := ho16.ext he16b
                          try replace k1 := k1.ext he16b
                          have zS := (hS3).le
                          refine D.one 14 (by kernel_rfl) rfl ?_
                          refine L.storeAgg (vs := [_, _, _, _, _, _, _]) rfl rfl rfl rfl sz_33 (hk16) rfl ?_
                          intro wD hkD hgD hsD
                          have hS4 := (hS3).grw hgD (by intro g hg; injection hg with hg; omega)
                          refine L.nil ?_
                          refine ⟨fun _ => hS4, ?_⟩
                          have k1Dq := k1.blkL hk16 hgD (by omega)
                          refine D.va 15 rfl (by kernel_rfl) (fun _ _ _ h => h) rfl (fun w' hw => X.assign (by conv => lhs; whnf)) hS4 ?_
                          refine D.va 16 rfl (by kernel_rfl) (fun _ _ _ h => h) rfl (fun w' hw => X.assign (by conv => lhs; whnf)) hS4 ?_
                          refine D.done (by kernel_rfl) ?_
                          replace q34 := q34.ext hS4
                          replace q44 := q44.ext hS4
                          replace hk15 := hk15.ext hS4
                          refine ⟨(s', b16), At2 (by first | rfl | exact at_int rfl (by omega) | exact at_slice rfl (by omega) | exact at_int rfl (by simp)) (by first | rfl | exact at_int rfl (by omega) | exact at_slice rfl (by omega) | exact at_int rfl (by simp)), (by (iterate 16 refine Agr.lk rfl ?_); exact Agr.rfl'), ?_⟩
                          exact ⟨k1Dq, k2, hkD, hS4, k5, k6⟩
                        · have z16 := (hS1).le
                          refine L.alloc rfl zr_33 ?_
                          intro b16 wC hb16 hs16 hk16 he16b
                          have hS2 := (hS1).trans he16b
                          refine L.nil ?_
                          refine ⟨fun _ => hS2, ?_⟩
                          try replace ho16 := ho16.ext he16b
                          try replace k1 := k1.ext he16b
                          have zS := (hS2).le
                          refine D.one 8 (by kernel_rfl) rfl ?_
                          refine L.call rfl en_18 rfl ((K113 _ (hS2) A16 c16 (Reads.of_own ho16))) ?_
                          rintro e wB ⟨s', Ao, no, co, rfl, k1, k2, k4, k5, k6⟩
                          refine ⟨_, rfl, ?_⟩
                          have hS3 := (hS2).trans k4
                          refine L.nil ?_
                          refine ⟨fun _ => hS3, ?_⟩
                          have k5 : Rk.Fr s' s w14 := fun g hg => (k5 g hg).imp id (fun hh => by omega)
                          have k6 : Rk.CF s' s w14 := fun x hx => (k6 x hx).imp id (fun hh => ⟨fun g hg => Nat.le_trans zS (hh.1 g hg), hh.2⟩)
                          have k4 : Ext _ wB := k4
                          try replace hk16 := hk16.ext k4
                          refine D.va 9 rfl (by kernel_rfl) (fun _ _ _ h => h) rfl (fun w' hw => X.move (by conv => lhs; whnf)) hS3 ?_
                          refine D.va 10 rfl (by kernel_rfl) (fun _ _ _ h => h) rfl (fun w' hw => X.extract rfl rfl) hS3 ?_
                          refine D.va 11 rfl (by kernel_rfl) (fun _ _ _ h => h) rfl (fun w' hw => X.extract rfl rfl) hS3 ?_
                          refine D.va 12 rfl (by kernel_rfl) (fun _ _ _ h => h) rfl (fun w' hw => X.extract rfl rfl) hS3 ?_
                          have zS := (hS3).le
                          refine D.one 14 (by kernel_rfl) rfl ?_
                          refine L.storeAgg (vs := [_, _, _, _, _, _, _]) rfl rfl rfl rfl sz_33 (hk16) rfl ?_
                          intro wD hkD hgD hsD
                          have hS4 := (hS3).grw hgD (by intro g hg; injection hg with hg; omega)
                          refine L.nil ?_
                          refine ⟨fun _ => hS4, ?_⟩
                          have k1Dq := k1.blkL hk16 hgD (by omega)
                          refine D.va 15 rfl (by kernel_rfl) (fun _ _ _ h => h) rfl (fun w' hw => X.assign (by conv => lhs; whnf)) hS4 ?_
                          refine D.va 16 rfl (by kernel_rfl) (fun _ _ _ h => h) rfl (fun w' hw => X.assign (by conv => lhs; whnf)) hS4 ?_
                          refine D.done (by kernel_rfl) ?_
                          replace q34 := q34.ext hS4
                          replace q44 := q44.ext hS4
                          replace hk15 := hk15.ext hS4
                          refine ⟨(s', b16), At2 (by first | rfl | exact at_int rfl (by omega) | exact at_slice rfl (by omega) | exact at_int rfl (by simp)) (by first | rfl | exact at_int rfl (by omega) | exact at_slice rfl (by omega) | exact at_int rfl (by simp)), (by (iterate 16 refine Agr.lk rfl ?_); exact Agr.rfl'), ?_⟩
                          exact ⟨k1Dq, k2, hkD, hS4, k5, k6⟩
                      · have z16 := (hS).le
                        refine L.alloc rfl zr_33 ?_
                        intro b16 wC hb16 hs16 hk16 he16b
                        have hS1 := (hS).trans he16b
                        refine L.nil ?_
                        refine ⟨fun _ => hS1, ?_⟩
                        try replace ho16 := ho16.ext he16b
                        try replace k1 := k1.ext he16b
                        refine D.one 6 (by kernel_rfl) rfl ?_
                        refine L.call rfl en_30 rfl ((K111 _ (hS1))) ?_
                        rintro e wA ⟨A16, c16, rfl, ho16, he16⟩
                        refine ⟨_, rfl, ?_⟩
                        have hS2 := (hS1).trans he16
                        refine L.nil ?_
                        refine ⟨fun _ => hS2, ?_⟩
                        rw [e16] at ho16
                        try replace hk16 := hk16.ext he16
                        refine D.va 7 rfl (by kernel_rfl) (fun _ _ _ h => h) rfl (fun w' hw => X.build (l := [.int .i64 1, .int .i64 ((Q.st.fr : Int) + ((first + j : Nat) : Int)), .slice A16 1024 c16, .bool false, .slice none 0 0]) (Evs.cons rfl (Evs.cons rfl (Evs.cons rfl Evs.nil))) (bld_run Tryd.underlying58 (bp_58 Tryd.underlying58) zr_58 rfl)) hS2 ?_
                        have zS := (hS2).le
                        refine D.one 8 (by kernel_rfl) rfl ?_
                        refine L.call rfl en_18 rfl ((K113 _ (hS2) A16 c16 (Reads.of_own ho16))) ?_
                        rintro e wB ⟨s', Ao, no, co, rfl, k1, k2, k4, k5, k6⟩
                        refine ⟨_, rfl, ?_⟩
                        have hS3 := (hS2).trans k4
                        refine L.nil ?_
                        refine ⟨fun _ => hS3, ?_⟩
                        have k5 : Rk.Fr s' s w14 := fun g hg => (k5 g hg).imp id (fun hh => by omega)
                        have k6 : Rk.CF s' s w14 := fun x hx => (k6 x hx).imp id (fun hh => ⟨fun g hg => Nat.le_trans zS (hh.1 g hg), hh.2⟩)
                        have k4 : Ext _ wB := k4
                        try replace hk16 := hk16.ext k4
                        refine D.va 9 rfl (by kernel_rfl) (fun _ _ _ h => h) rfl (fun w' hw => X.move (by conv => lhs; whnf)) hS3 ?_
                        refine D.va 10 rfl (by kernel_rfl) (fun _ _ _ h => h) rfl (fun w' hw => X.extract rfl rfl) hS3 ?_
                        refine D.va 11 rfl (by kernel_rfl) (fun _ _ _ h => h) rfl (fun w' hw => X.extract rfl rfl) hS3 ?_
                        refine D.va 12 rfl (by kernel_rfl) (fun _ _ _ h => h) rfl (fun w' hw => X.extract rfl rfl) hS3 ?_
                        have zS := (hS3).le
                        refine D.one 14 (by kernel_rfl) rfl ?_
                        refine L.storeAgg (vs := [_, _, _, _, _, _, _]) rfl rfl rfl rfl sz_33 (hk16) rfl ?_
                        intro wD hkD hgD hsD
                        have hS4 := (hS3).grw hgD (by intro g hg; injection hg with hg; omega)
                        refine L.nil ?_
                        refine ⟨fun _ => hS4, ?_⟩
                        have k1Dq := k1.blkL hk16 hgD (by omega)
                        refine D.va 15 rfl (by kernel_rfl) (fun _ _ _ h => h) rfl (fun w' hw => X.assign (by conv => lhs; whnf)) hS4 ?_
                        refine D.va 16 rfl (by kernel_rfl) (fun _ _ _ h => h) rfl (fun w' hw => X.assign (by conv => lhs; whnf)) hS4 ?_
                        refine D.done (by kernel_rfl) ?_
                        replace q34 := q34.ext hS4
                        replace q44 := q44.ext hS4
                        replace hk15 := hk15.ext hS4
                        refine ⟨(s', b16), At2 (by first | rfl | exact at_int rfl (by omega) | exact at_slice rfl (by omega) | exact at_int rfl (by simp)) (by first | rfl | exact at_int rfl (by omega) | exact at_slice rfl (by omega) | exact at_int rfl (by simp)), (by (iterate 16 refine Agr.lk rfl ?_); exact Agr.rfl'), ?_⟩
                        exact ⟨k1Dq, k2, hkD, hS4, k5, k6⟩
                    · rintro ⟨s', b16⟩ g w15 ⟨k1, k2, hk16, he15, k5, k6⟩
                      have he15 : Ext w14 w15 := he15
                      have hk16 : Blk w15 b16 33 #[s'.K, s'.P, .bool s'.off, .int .i64 s'.left, .int .i64 s'.rd, .int .i64 s'.wr, .int .i64 s'.fl] := hk16
                      have q35 := q34.ext he15
                      have q45 := q44.ext he15
                      have q65 := q64.ext he15
                      have q75 := q74.ext he15
                      have z15 := he15.le
                      refine J.seq ?_
                      refine J.region ?_
                      refine L.va rfl ((by first | exact X.loadAgg rfl (range_l q45) Tryd.underlying33 rfl (by kernel_rfl) | exact X.loadAgg rfl (range_blk q45) Tryd.underlying33 rfl (by kernel_rfl) | exact X.loadAgg rfl (range_l hk16) Tryd.underlying33 rfl (by kernel_rfl) | exact X.loadAgg rfl (range_blk hk16) Tryd.underlying33 rfl (by kernel_rfl))) ?_
                      refine L.storeAgg (vs := [_, _, _, _, _, _, _]) rfl rfl rfl rfl sz_33 (q35) rfl ?_
                      intro w16 q36 hg16 hs16
                      have q36 : Blk w16 b3 33 #[s'.K, s'.P, .bool s'.off, .int .i64 s'.left, .int .i64 s'.rd, .int .i64 s'.wr, .int .i64 s'.fl] := q36
                      have q46 := q45.grown hg16 (nb b34.symm)
                      have q66 := q65.grown hg16 (nb b36.symm)
                      have q76 := q75.grown hg16 (nb b37.symm)
                      have z16 := hg16.size
                      have he16 : Ext w w16 := ((he12.trans he14).trans he15).grw hg16 (by intro g hg; injection hg with hg; omega)
                      have S16 : s'.At N w16 := k1.blkL q35 hg16 (by omega)
                      have Q16 : Q.At N w16 := ((M.h.ext he14).ext he15).blkL q35 hg16
                      have fr16 : Rk.Fr s' r w := fun g hg => (k5 g hg).elim (fun hh => M.fr g hh) (fun hh => .inr (by omega))
                      have cf16 : Rk.CF s' r w := fun x hx => (k6 x hx).elim (fun hh => M.cf x hh) (fun hh => .inr ⟨fun g hg => Nat.le_trans (Nat.le_trans z12 z14) (hh.1 g hg), hh.2⟩)
                      refine L.nil ?_
                      refine J.seq ?_
                      refine J.seq ?_
                      refine J.region ?_
                      refine L.va rfl (X.move (by conv => lhs; whnf)) ?_
                      refine L.va rfl (X.neq rfl rfl) ?_
                      refine L.nil ?_
                      refine J.ndec rfl (fun he0 => ?_) (fun he0 => ?_)
                      · have eW : W = (Dq.1, { Q.st with bad := Dq.2.2 }, Dq.2.2) := by rw [wN, if_neg he0]
                        rw [eW]
                        refine J.seq ?_
                        refine J.region ?_
                        refine L.va rfl (X.move (by conv => lhs; whnf)) ?_
                        refine L.va rfl (X.fieldAddr rfl Tryd.underlying42 rfl sz_3 (by decide)) ?_
                        refine L.store rfl rfl (by conv => lhs; whnf) rfl sz_3 (q46) (by first | decide | exact Nat.le_of_ble_eq_true rfl) ?_
                        intro w17 q47 hg17 hs17
                        have q47 : Blk w17 b4 42 #[.int .i64 (Q.st.fr : Int), .int .i64 (Q.st.ct : Int), .int .u64 Q.st.ep, .int .u64 Q.st.nx, Q.ss, Q.ts, .int .i64 Dq.2.2] := q47
                        have q37 := q36.grown hg17 (nb b34)
                        have q67 := q66.grown hg17 (nb b46.symm)
                        have q77 := q76.grown hg17 (nb b47.symm)
                        have he17 : Ext w w17 := he16.grw hg17 (by intro g hg; injection hg with hg; omega)
                        have S17 : s'.At N w17 := S16.blkL q46 hg17 (by omega)
                        have Q17 : Q.At N w17 := Q16.blkL q46 hg17
                        have z17 := hg17.size
                        refine L.nil ?_
                        refine J.seq ?_
                        refine J.draw (ℓ := 1000000) (S := Below b6 w17) mixed (fun wx hSE hS_h => ?_)
                        have hS : (Below b6 w17) wx := Below.mono hSE (by omega)
                        have hcd := q67.ext hSE
                        have hcl := q77.ext hSE
                        have zx := hSE.le
                        have hra := S17.ext hSE
                        have hRa := Q17.ext hSE
                        refine D.va 0 rfl (by kernel_rfl) (fun _ _ _ h => h) rfl (fun w' hw => (by first | exact X.loadAgg rfl (range_l (q37.low hw (by omega))) Tryd.underlying33 rfl (by kernel_rfl) | exact X.loadAgg rfl (range_blk (q37.low hw (by omega))) Tryd.underlying33 rfl (by kernel_rfl) | exact X.loadAgg rfl (range_l (q47.low hw (by omega))) Tryd.underlying33 rfl (by kernel_rfl) | exact X.loadAgg rfl (range_blk (q47.low hw (by omega))) Tryd.underlying33 rfl (by kernel_rfl))) hS ?_
                        refine D.va 1 rfl (by kernel_rfl) (fun _ _ _ h => h) rfl (fun w' hw => (by first | exact X.loadAgg rfl (range_l (q37.low hw (by omega))) Tryd.underlying42 rfl (by kernel_rfl) | exact X.loadAgg rfl (range_blk (q37.low hw (by omega))) Tryd.underlying42 rfl (by kernel_rfl) | exact X.loadAgg rfl (range_l (q47.low hw (by omega))) Tryd.underlying42 rfl (by kernel_rfl) | exact X.loadAgg rfl (range_blk (q47.low hw (by omega))) Tryd.underlying42 rfl (by kernel_rfl))) hS ?_
                        refine D.va 2 rfl (by kernel_rfl) (fun _ _ _ h => h) rfl (fun w' hw => X.move (by conv => lhs; whnf)) hS ?_
                        have zs := Below.size (hS)
                        refine D.one 3 (by kernel_rfl) rfl ?_
                        refine L.storeAgg (vs := [_, _, _, _, _, _, _]) rfl rfl rfl rfl sz_33 (hcd) rfl ?_
                        intro wa hka hga hsa
                        have hS1 := Below.grown (hS) hga (by omega) (by intro g hg; injection hg with hg; omega)
                        refine L.nil ?_
                        refine ⟨fun _ => hS1, ?_⟩
                        replace hra := hra.blkL hcd hga (by omega)
                        replace hRa := hRa.blkL hcd hga
                        try replace hcl := hcl.grown hga (by intro h; injection h with h; omega)
                        try replace hkb := hkb.grown hga (by intro h; injection h with h; omega)
                        have zs := Below.size (hS1)
                        refine D.one 4 (by kernel_rfl) rfl ?_
                        refine L.storeAgg (vs := [_, _, _, _, _, _, _]) rfl rfl rfl rfl sz_42 (hcl) rfl ?_
                        intro wb hkb hgb hsb
                        have hS2 := Below.grown (hS1) hgb (by omega) (by intro g hg; injection hg with hg; omega)
                        refine L.nil ?_
                        refine ⟨fun _ => hS2, ?_⟩
                        replace hra := hra.blkL hcl hgb (by omega)
                        replace hRa := hRa.blkL hcl hgb
                        try replace hcd := hcd.grown hgb (by intro h; injection h with h; omega)
                        try replace hka := hka.grown hgb (by intro h; injection h with h; omega)
                        refine D.va 5 rfl (by kernel_rfl) (fun _ _ _ h => h) rfl (fun w' hw => X.assign (by conv => lhs; whnf)) hS2 ?_
                        refine D.done (by kernel_rfl) ?_
                        replace q37 := q37.low hS2 (by omega)
                        replace q47 := q47.low hS2 (by omega)
                        refine J.ret ?_
                        refine thn_ret <|  inB_ret <|  thn_ret <|  thn_ret <|  inB_ret <|  thn_ret <| ?_
                        refine finCCT rfl (run_cell hka Tryd.underlying33 rfl (by kernel_rfl)) rfl (run_cell hkb Tryd.underlying42 rfl (by kernel_rfl)) ?_
                        have he : Ext w _ := Below.trans he17 (Below.mono (hS2) (by omega))
                        exact ⟨s', { Q with st := { Q.st with bad := Dq.2.2 } }, rfl, hra, ⟨hRa.hs, hRa.ht⟩, k2, rfl, he, fr16, cf16, ⟨M.gr.s, M.gr.t⟩⟩
                      · have he0' : Dq.2.2 = 0 := by omega
                        have htr := Reads.of_own Q16.ht
                        have hrp : Reads w16 w16.heap.size 1 Q.tA (first + j) (nums .u64 (Q.st.tm.take (first + j))) := by
                          have := htr.first (k := first + j) (by omega)
                          rw [Nat.mul_one] at this
                          simpa [nums] using this
                        refine J.skip ?_
                        refine J.cut (X := Option Addr × Nat) [125, 126, 127, 128, 129, 130, 131, 132, 133, 134, 135] (fun _ => []) (fun (A19, c19) w' => w'.ownsRow w16.heap.size 35 1 (.slice A19 (first + j + 1) c19) (first + j + 1) (nums .u64 (Q.st.tm.take (first + j) ++ [Q.st.nx])) ∧ ∃ u, Ext w16 u ∧ u.grownBy w' (some b4) ∧ Blk w' b4 42 #[.int .i64 (Q.st.fr : Int), .int .i64 (Q.st.ct : Int), .int .u64 Q.st.ep, .int .u64 Q.st.nx, Q.ss, .slice A19 (first + j + 1) c19, .int .i64 Q.st.bad]) ?_ ?_
                        · have hq46 := q46.lt
                          refine J.draw (ℓ := 11) (S := Ext w16) mixed (fun w17 hS hS_h => ?_)
                          refine D.va 1 rfl (by kernel_rfl) (fun _ _ _ h => h) rfl (fun w' hw => X.fieldAddr rfl Tryd.underlying42 rfl sz_40 (by decide)) hS ?_
                          refine D.va 2 rfl (by kernel_rfl) (fun _ _ _ h => h) rfl (fun w' hw => X.load rfl sc_40 (by first | exact Ld.blk (q36.ext hw) rfl | exact Ld.blk (q46.ext hw) rfl)) hS ?_
                          refine D.va 3 rfl (by kernel_rfl) (fun _ _ _ h => h) rfl (fun w' hw => X.move (by conv => lhs; whnf)) hS ?_
                          refine D.va 4 rfl (by kernel_rfl) (fun _ _ _ h => h) rfl (fun w' hw => (by first | exact X.sliceTon rfl rfl Tryd.underlying40 sz_35 (by omega) | exact X.sliceTo rfl rfl Tryd.underlying40 sz_35 (by omega))) hS ?_
                          refine D.va 6 rfl (by kernel_rfl) (fun _ _ _ h => h) rfl (fun w' hw => X.fieldAddr rfl Tryd.underlying42 rfl sz_35 (by decide)) hS ?_
                          refine D.va 7 rfl (by kernel_rfl) (fun _ _ _ h => h) rfl (fun w' hw => X.load rfl sc_35 (by first | exact Ld.blk (q36.ext hw) rfl | exact Ld.blk (q46.ext hw) rfl)) hS ?_
                          refine D.two 0 8 (by kernel_rfl) rfl rfl ?_ ?_
                          · have zA := (hS).le
                            refine L.bslice (vs := []) rfl Evs.nil rfl rfl rfl rfl Tryd.underlying40 sz_35 zr_35 (by decide) ?_
                            intro bA wA hbA hsA hkA heA
                            have hS1 := (hS).trans heA
                            refine L.nil ?_
                            refine ⟨fun _ => hS1, ?_⟩
                            have hoA : wA.ownsRow w16.heap.size 35 1 (.slice (some ⟨bA, 0, none⟩) 0 0) 0 (nums .u64 []) := blk_own1 (q := 0) hkA (by omega) (by decide) rfl
                            try replace hkB := hkB.ext heA
                            refine D.two 5 8 (by kernel_rfl) rfl rfl ?_ ?_
                            · have zC := (hS1).le
                              refine L.appendQ (q := first + j) (ys := Q.st.tm.take (first + j)) rfl rfl rfl Tryd.underlying40 el_35 (hoA) ((hrp.ext (hS1))) (by omega) (by simp) (by unfold maxLen; omega) (by omega) ?_
                              intro A18 c18 wE ho1 hg18 hb18 hor18
                              have hS2 := (hS1).low hb18 (Nat.le_refl _)
                              refine L.nil ?_
                              refine ⟨fun _ => hS2, ?_⟩
                              try replace hkB := hkB.grown hg18 (fun e => by have e : some bB = some bA := e; injection e with e; omega)
                              have zB := (hS2).le
                              refine D.one 8 (by kernel_rfl) rfl ?_
                              refine L.bslice (vs := [_]) rfl (Evs.cons (by conv => lhs; whnf) Evs.nil) rfl rfl rfl rfl Tryd.underlying40 sz_35 zr_35 (by decide) ?_
                              intro bB wB hbB hsB hkB heB
                              have hS3 := (hS2).trans heB
                              refine L.nil ?_
                              refine ⟨fun _ => hS3, ?_⟩
                              try replace hoA := hoA.ext heB
                              try replace ho1 := ho1.ext heB
                              have zD := (hS3).le
                              refine D.one 9 (by kernel_rfl) rfl ?_
                              refine L.appendQ (q := first + j + 1) (ys := Q.st.tm.take (first + j) ++ [Q.st.nx]) rfl rfl rfl Tryd.underlying40 el_35 (ho1) ((blk_reads (q := 1) (l := nums .u64 [Q.st.nx]) hkB hkB.lt rfl)) (by omega) (by simp) (by unfold maxLen; omega) (by omega) ?_
                              intro A19 c19 wF ho2 hg19 hb19 hor19
                              have hS4 := (hS3).low hb19 (Nat.le_refl _)
                              refine L.nil ?_
                              refine ⟨fun _ => hS4, ?_⟩
                              refine D.va 10 rfl (by kernel_rfl) (fun _ _ _ h => h) rfl (fun w' hw => X.fieldAddr rfl Tryd.underlying42 rfl sz_40 (by decide)) hS4 ?_
                              have hSu := hS4
                              have q4F := q46.ext hSu
                              refine D.one 11 (by kernel_rfl) rfl ?_
                              refine L.store rfl rfl (by conv => lhs; whnf) rfl sz_40 (q4F) (by first | decide | exact Nat.le_of_ble_eq_true rfl) ?_
                              intro wG hkG hgG hsG
                              refine L.nil ?_
                              refine ⟨fun h => absurd rfl h, ?_⟩
                              refine D.done (by kernel_rfl) ?_
                              replace q36 := q36.ext hS4
                              replace q46 := q46.ext hS4
                              refine ⟨(A19, c19), At0 , (by (iterate 11 refine Agr.lk rfl ?_); exact Agr.rfl'), ?_⟩
                              exact ⟨ho2.kept hgG (.inr (own_blk_ne ho2 q4F (by decide))), _, hSu, hgG, hkG⟩
                            · have zB := (hS1).le
                              refine L.bslice (vs := [_]) rfl (Evs.cons (by conv => lhs; whnf) Evs.nil) rfl rfl rfl rfl Tryd.underlying40 sz_35 zr_35 (by decide) ?_
                              intro bB wB hbB hsB hkB heB
                              have hS2 := (hS1).trans heB
                              refine L.nil ?_
                              refine ⟨fun _ => hS2, ?_⟩
                              try replace hoA := hoA.ext heB
                              try replace ho1 := ho1.ext heB
                              have zC := (hS2).le
                              refine D.one 5 (by kernel_rfl) rfl ?_
                              refine L.appendQ (q := first + j) (ys := Q.st.tm.take (first + j)) rfl rfl rfl Tryd.underlying40 el_35 (hoA) ((hrp.ext (hS2))) (by omega) (by simp) (by unfold maxLen; omega) (by omega) ?_
                              intro A18 c18 wE ho1 hg18 hb18 hor18
                              have hS3 := (hS2).low hb18 (Nat.le_refl _)
                              refine L.nil ?_
                              refine ⟨fun _ => hS3, ?_⟩
                              try replace hkB := hkB.grown hg18 (fun e => by have e : some bB = some bA := e; injection e with e; omega)
                              have zD := (hS3).le
                              refine D.one 9 (by kernel_rfl) rfl ?_
                              refine L.appendQ (q := first + j + 1) (ys := Q.st.tm.take (first + j) ++ [Q.st.nx]) rfl rfl rfl Tryd.underlying40 el_35 (ho1) ((blk_reads (q := 1) (l := nums .u64 [Q.st.nx]) hkB hkB.lt rfl)) (by omega) (by simp) (by unfold maxLen; omega) (by omega) ?_
                              intro A19 c19 wF ho2 hg19 hb19 hor19
                              have hS4 := (hS3).low hb19 (Nat.le_refl _)
                              refine L.nil ?_
                              refine ⟨fun _ => hS4, ?_⟩
                              refine D.va 10 rfl (by kernel_rfl) (fun _ _ _ h => h) rfl (fun w' hw => X.fieldAddr rfl Tryd.underlying42 rfl sz_40 (by decide)) hS4 ?_
                              have hSu := hS4
                              have q4F := q46.ext hSu
                              refine D.one 11 (by kernel_rfl) rfl ?_
                              refine L.store rfl rfl (by conv => lhs; whnf) rfl sz_40 (q4F) (by first | decide | exact Nat.le_of_ble_eq_true rfl) ?_
                              intro wG hkG hgG hsG
                              refine L.nil ?_
                              refine ⟨fun h => absurd rfl h, ?_⟩
                              refine D.done (by kernel_rfl) ?_
                              replace q36 := q36.ext hS4
                              replace q46 := q46.ext hS4
                              refine ⟨(A19, c19), At0 , (by (iterate 11 refine Agr.lk rfl ?_); exact Agr.rfl'), ?_⟩
                              exact ⟨ho2.kept hgG (.inr (own_blk_ne ho2 q4F (by decide))), _, hSu, hgG, hkG⟩
                          · have zB := (hS).le
                            refine L.bslice (vs := [_]) rfl (Evs.cons (by conv => lhs; whnf) Evs.nil) rfl rfl rfl rfl Tryd.underlying40 sz_35 zr_35 (by decide) ?_
                            intro bB wB hbB hsB hkB heB
                            have hS1 := (hS).trans heB
                            refine L.nil ?_
                            refine ⟨fun _ => hS1, ?_⟩
                            try replace hoA := hoA.ext heB
                            try replace ho1 := ho1.ext heB
                            have zA := (hS1).le
                            refine D.one 0 (by kernel_rfl) rfl ?_
                            refine L.bslice (vs := []) rfl Evs.nil rfl rfl rfl rfl Tryd.underlying40 sz_35 zr_35 (by decide) ?_
                            intro bA wA hbA hsA hkA heA
                            have hS2 := (hS1).trans heA
                            refine L.nil ?_
                            refine ⟨fun _ => hS2, ?_⟩
                            have hoA : wA.ownsRow w16.heap.size 35 1 (.slice (some ⟨bA, 0, none⟩) 0 0) 0 (nums .u64 []) := blk_own1 (q := 0) hkA (by omega) (by decide) rfl
                            try replace hkB := hkB.ext heA
                            have zC := (hS2).le
                            refine D.one 5 (by kernel_rfl) rfl ?_
                            refine L.appendQ (q := first + j) (ys := Q.st.tm.take (first + j)) rfl rfl rfl Tryd.underlying40 el_35 (hoA) ((hrp.ext (hS2))) (by omega) (by simp) (by unfold maxLen; omega) (by omega) ?_
                            intro A18 c18 wE ho1 hg18 hb18 hor18
                            have hS3 := (hS2).low hb18 (Nat.le_refl _)
                            refine L.nil ?_
                            refine ⟨fun _ => hS3, ?_⟩
                            try replace hkB := hkB.grown hg18 (fun e => by have e : some bB = some bA := e; injection e with e; omega)
                            have zD := (hS3).le
                            refine D.one 9 (by kernel_rfl) rfl ?_
                            refine L.appendQ (q := first + j + 1) (ys := Q.st.tm.take (first + j) ++ [Q.st.nx]) rfl rfl rfl Tryd.underlying40 el_35 (ho1) ((blk_reads (q := 1) (l := nums .u64 [Q.st.nx]) hkB hkB.lt rfl)) (by omega) (by simp) (by unfold maxLen; omega) (by omega) ?_
                            intro A19 c19 wF ho2 hg19 hb19 hor19
                            have hS4 := (hS3).low hb19 (Nat.le_refl _)
                            refine L.nil ?_
                            refine ⟨fun _ => hS4, ?_⟩
                            refine D.va 10 rfl (by kernel_rfl) (fun _ _ _ h => h) rfl (fun w' hw => X.fieldAddr rfl Tryd.underlying42 rfl sz_40 (by decide)) hS4 ?_
                            have hSu := hS4
                            have q4F := q46.ext hSu
                            refine D.one 11 (by kernel_rfl) rfl ?_
                            refine L.store rfl rfl (by conv => lhs; whnf) rfl sz_40 (q4F) (by first | decide | exact Nat.le_of_ble_eq_true rfl) ?_
                            intro wG hkG hgG hsG
                            refine L.nil ?_
                            refine ⟨fun h => absurd rfl h, ?_⟩
                            refine D.done (by kernel_rfl) ?_
                            replace q36 := q36.ext hS4
                            replace q46 := q46.ext hS4
                            refine ⟨(A19, c19), At0 , (by (iterate 11 refine Agr.lk rfl ?_); exact Agr.rfl'), ?_⟩
                            exact ⟨ho2.kept hgG (.inr (own_blk_ne ho2 q4F (by decide))), _, hSu, hgG, hkG⟩
                        · rintro ⟨A19, c19⟩ g w17 ⟨ho19, u, heu, hgu, q47⟩
                          have q36u := q36.ext heu
                          have q66u := q66.ext heu
                          have q76u := q76.ext heu
                          have q46u := q46.ext heu
                          have Su := S16.ext heu
                          have Qu := Q16.ext heu
                          have q47 : Blk w17 b4 42 #[.int .i64 (Q.st.fr : Int), .int .i64 (Q.st.ct : Int), .int .u64 Q.st.ep, .int .u64 Q.st.nx, Q.ss, .slice A19 (first + j + 1) c19, .int .i64 Q.st.bad] := q47
                          have zu := heu.le
                          have z17 := hgu.size
                          have he17 : Ext w w17 := (he16.trans heu).grw hgu (by intro g hg; injection hg with hg; omega)
                          refine J.region ?_
                          refine L.va rfl (X.fieldAddr rfl Tryd.underlying42 rfl sz_35 (by decide)) ?_
                          refine L.va rfl (X.load rfl sc_35 (by first | exact Ld.blk q47 rfl)) ?_
                          refine L.va rfl (X.addU rfl rfl (by omega)) ?_
                          refine L.va rfl (X.fieldAddr rfl Tryd.underlying42 rfl sz_35 (by decide)) ?_
                          refine L.store rfl rfl (by conv => lhs; whnf) rfl sz_35 (q47) (by first | decide | exact Nat.le_of_ble_eq_true rfl) ?_
                          intro w18 q48 hg18 hs18
                          have q48 : Blk w18 b4 42 #[.int .i64 (Q.st.fr : Int), .int .i64 (Q.st.ct : Int), .int .u64 Q.st.ep, .int .u64 (Q.st.nx + 1), Q.ss, .slice A19 (first + j + 1) c19, .int .i64 Q.st.bad] := q48
                          have he18 : Ext w w18 := he17.grw hg18 (by intro g hg; injection hg with hg; omega)
                          have ho18 := ho19.kept hg18 (.inr (own_blk_ne ho19 q47 (by decide)))
                          have tl : (Q.st.tm.take (first + j) ++ [Q.st.nx]).length = first + j + 1 := by rw [List.length_append, List.length_take, Nat.min_eq_left (by omega)]; rfl
                          have S17 := Su.blkL q46u hgu (by omega)
                          have Q17 := Qu.blkL q46u hgu
                          refine L.nil ?_
                          refine J.region ?_
                          refine L.va rfl (X.move (by conv => lhs; whnf)) ?_
                          refine L.va rfl (X.add rfl rfl (by omega)) ?_
                          refine L.va rfl (X.assign (by conv => lhs; whnf)) ?_
                          refine L.nil ?_
                          refine ⟨(j + 1, s', ⟨Q.sA, Q.sc, A19, c19, { Q.st with tm := Q.st.tm.take (first + j) ++ [Q.st.nx], nx := Q.st.nx + 1 }⟩), At1 (by first | rfl | exact at_int rfl (by omega) | exact at_slice rfl (by omega) | exact at_int rfl (by simp)), (by (iterate 7 refine Agr.lk rfl ?_); refine Agr.lk rfl ?_; refine Agr.hav rfl ?_; (iterate 3 refine Agr.lk rfl ?_); refine Agr.lk rfl ?_; refine Agr.hav rfl ?_; refine Agr.lk rfl ?_; refine Agr.hav rfl ?_; refine Agr.lk rfl ?_; refine Agr.hav rfl ?_; (iterate 6 refine Agr.lk rfl ?_); exact Agr.lk rfl (Agr.hav rfl Agr.rfl')), ?_⟩
                          refine ⟨⟨by omega, ?_, M.sA, M.sc, qwr.next (by omega) (by omega), by show 0 ≤ Q.st.nx + 1; omega, ?_, S17.blkL q47 hg18 (by omega), ⟨(Q17.blkL q47 hg18).hs, ?_⟩, ?_, ?_, ?_, ?_, he18, fr16, cf16, ⟨M.gr.s, fun g hg => ?_⟩⟩, by show i - (j + 1) < i - j; omega⟩
                          · rw [← hW, wN, if_pos he0', k2]
                            rfl
                          · rw [k2, hD]
                            exact M.ok.do_ _ (by show ((Q.st.fr + (first + j) : Nat) : Int) ≤ _; omega)
                          · show World.ownsRow _ _ _ _ (.slice A19 (Q.st.tm.take (first + j) ++ [Q.st.nx]).length c19) (Q.st.tm.take (first + j) ++ [Q.st.nx]).length _
                            rw [tl]
                            exact ho18.mono (by omega)
                          · exact (q36u.grown hgu (nb b34)).grown hg18 (nb b34)
                          · show Blk w18 b4 42 #[.int .i64 (Q.st.fr : Int), .int .i64 (Q.st.ct : Int), .int .u64 Q.st.ep, .int .u64 (Q.st.nx + 1), Q.ss, .slice A19 (Q.st.tm.take (first + j) ++ [Q.st.nx]).length c19, .int .i64 Q.st.bad]
                            rw [tl]
                            exact q48
                          · exact (q66u.grown hgu (nb b46.symm)).grown hg18 (nb b46.symm)
                          · exact (q76u.grown hgu (nb b47.symm)).grown hg18 (nb b47.symm)
                          · have hg : Value.ownBlock (.slice A19 (Q.st.tm.take (first + j) ++ [Q.st.nx]).length c19) = some g := hg
                            rw [ob_len A19 _ c19 (first + j + 1) c19] at hg
                            have := (own_isT ho19 hg).2
                            exact .inr (by omega)
              · obtain rfl : j = i := by omega
                have eW : W = (s.abs, Q.st, 0) := by rw [hW, M.eq, Nat.sub_self]; rfl
                rw [eW]
                refine J.exit ?_
                refine J.seq ?_
                refine J.draw (ℓ := 1000000) (S := Below b6 w12) mixed (fun wx hSE hS_h => ?_)
                have hS : (Below b6 w12) wx := Below.mono hSE (by omega)
                have hcd := q6.ext hSE
                have hcl := q7.ext hSE
                have zx := hSE.le
                have hra := M.hr.ext hSE
                have hRa := M.h.ext hSE
                refine D.va 0 rfl (by kernel_rfl) (fun _ _ _ h => h) rfl (fun w' hw => (by first | exact X.loadAgg rfl (range_l (q3.low hw (by omega))) Tryd.underlying33 rfl (by kernel_rfl) | exact X.loadAgg rfl (range_blk (q3.low hw (by omega))) Tryd.underlying33 rfl (by kernel_rfl) | exact X.loadAgg rfl (range_l (q4.low hw (by omega))) Tryd.underlying33 rfl (by kernel_rfl) | exact X.loadAgg rfl (range_blk (q4.low hw (by omega))) Tryd.underlying33 rfl (by kernel_rfl))) hS ?_
                refine D.va 1 rfl (by kernel_rfl) (fun _ _ _ h => h) rfl (fun w' hw => (by first | exact X.loadAgg rfl (range_l (q3.low hw (by omega))) Tryd.underlying42 rfl (by kernel_rfl) | exact X.loadAgg rfl (range_blk (q3.low hw (by omega))) Tryd.underlying42 rfl (by kernel_rfl) | exact X.loadAgg rfl (range_l (q4.low hw (by omega))) Tryd.underlying42 rfl (by kernel_rfl) | exact X.loadAgg rfl (range_blk (q4.low hw (by omega))) Tryd.underlying42 rfl (by kernel_rfl))) hS ?_
                have zs := Below.size (hS)
                refine D.one 2 (by kernel_rfl) rfl ?_
                refine L.storeAgg (vs := [_, _, _, _, _, _, _]) rfl rfl rfl rfl sz_33 (hcd) rfl ?_
                intro wa hka hga hsa
                have hS1 := Below.grown (hS) hga (by omega) (by intro g hg; injection hg with hg; omega)
                refine L.nil ?_
                refine ⟨fun _ => hS1, ?_⟩
                replace hra := hra.blkL hcd hga (by omega)
                replace hRa := hRa.blkL hcd hga
                try replace hcl := hcl.grown hga (by intro h; injection h with h; omega)
                try replace hkb := hkb.grown hga (by intro h; injection h with h; omega)
                have zs := Below.size (hS1)
                refine D.one 3 (by kernel_rfl) rfl ?_
                refine L.storeAgg (vs := [_, _, _, _, _, _, _]) rfl rfl rfl rfl sz_42 (hcl) rfl ?_
                intro wb hkb hgb hsb
                have hS2 := Below.grown (hS1) hgb (by omega) (by intro g hg; injection hg with hg; omega)
                refine L.nil ?_
                refine ⟨fun _ => hS2, ?_⟩
                replace hra := hra.blkL hcl hgb (by omega)
                replace hRa := hRa.blkL hcl hgb
                try replace hcd := hcd.grown hgb (by intro h; injection h with h; omega)
                try replace hka := hka.grown hgb (by intro h; injection h with h; omega)
                refine D.va 4 rfl (by kernel_rfl) (fun _ _ _ h => h) rfl (fun w' hw => X.assign (by conv => lhs; whnf)) hS2 ?_
                refine D.done (by kernel_rfl) ?_
                replace q3 := q3.low hS2 (by omega)
                replace q4 := q4.low hS2 (by omega)
                refine J.ret ?_
                refine finCCT rfl (run_cell hka Tryd.underlying33 rfl (by kernel_rfl)) rfl (run_cell hkb Tryd.underlying42 rfl (by kernel_rfl)) ?_
                have he : Ext w _ := Below.trans he12 (Below.mono (hS2) (by omega))
                exact ⟨s, Q, rfl, hra, hRa, rfl, rfl, he, M.fr, M.cf, M.gr⟩
end Go.Proofs.YtjdimgigbgafbaaDoor
