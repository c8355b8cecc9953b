/- The law AuditKnown: the walk. -/
import Derived.Test.YthcaepnclhgkmaaDoorAuY
namespace Go.Proofs.YthcaepnclhgkmaaDoor
open Go Go.Abs
set_option linter.unusedSimpArgs false
set_option linter.unusedVariables false
set_option maxRecDepth 100000
set_option maxHeartbeats 4000000

theorem many_fold : ∀ (k i : Nat) (z : List Ru), foldC (fun i (_ : Unit) (z : List Ru) => Ctl.go (z ++ [⟨((i + 1 : Nat) : Int), 0, 0, false⟩])) id i (List.replicate k ()) z = z ++ (List.range k).map fun j => ⟨((i + j + 1 : Nat) : Int), 0, 0, false⟩ := by
  intro k
  induction k with
  | zero => intro i z; simp [foldC]
  | succ k ih =>
    intro i z
    rw [List.replicate_succ, foldC_go (s' := z ++ [⟨((i + 1 : Nat) : Int), 0, 0, false⟩]) rfl, ih, List.range_succ_eq_map]
    simp [List.append_assoc, Nat.add_comm, Nat.add_left_comm, Function.comp_def]
    intros; omega

theorem many_all : foldC (fun i (_ : Unit) (z : List Ru) => Ctl.go (z ++ [⟨((i + 1 : Nat) : Int), 0, 0, false⟩])) id 0 (List.replicate 13 ()) [] = many 13 := by
  rw [many_fold, List.nil_append]
  simp only [Nat.zero_add, many]
theorem es13 (hs : Heap) : elemsOf (rowG 4 encR (many 13) :: hs) 4 (.ms 0 13 0 13 4 false) = some (((many 13).map encR).map .t) := by kernel_rfl
theorem es12 (hs : Heap) : elemsOf (rowG 4 encR (many 13) :: hs) 4 (.ms 0 13 0 12 4 false) = some (((many 12).map encR).map .t) := by kernel_rfl

def zN : Nt := ⟨0, 0, 0, 0⟩
def gF (i : Nat) : Nt := ⟨2, 0, 0, 7⟩
def rowF (n i mr : Nat) : AObj := .row 4 (((fillL gF zN n i).map encN).map .t) mr
theorem mkF {h : Heap} : mkSl 4 32 (.agg [J 0, J 0, J 0, J 0]) h (some 4097) (some 4097) = some (.val (.ms h.length 4097 0 4097 4 true) (h ++ [rowF 4097 0 0])) := by
  rw [mkSl_app, if_pos ⟨Nat.le_refl _, by rw [roomB_eq]; omega, by omega⟩, rowF, fillL_zero]
  rw [show (.agg [J 0, J 0, J 0, J 0] : T) = encN zN from rfl, row_rep]
  rfl
theorem frz_rowM' {α : Type} {k mr : Nat} {enc : α → T} {l : List α} {h : Heap} {p : Nat → Bool} : frzObj h p (.row k ((l.map enc).map .t) mr) = some (.row k ((l.map enc).map .t) mr) := by
  simp only [frzObj, av_map, if_true]
theorem frz_rowF {n i mr : Nat} {h : Heap} {p : Nat → Bool} : frzObj h p (rowF n i mr) = some (rowF n i mr) := by
  simp only [rowF, frzObj, av_map, if_true]
theorem fill_loop (a0 a1 a2 a3 a4 : AObj) (hf : ∀ x ∈ [a0, a1, a2, a3, a4], ∀ (h : Heap) (p : Nat → Bool), frzObj h p x = some x) (e : FEnv) (R : Xit → FEnv → Heap → Prop) (x1 x5 x7 x9 x10 x11 : AV)
    (he : e 1 = x1 ∧ e 5 = x5 ∧ e 7 = x7 ∧ e 9 = x9 ∧ e 10 = x10 ∧ e 11 = x11 ∧ e 12 = .ms 5 4097 0 4097 4 true ∧ e 111 = .t (J ((4097 : Nat) : Int)) ∧ e 112 = .t (J ((0 : Nat) : Int)))
    (hR : ∀ e' mr, mr ≤ 4097 → (e' 1 = x1 ∧ e' 5 = x5 ∧ e' 7 = x7 ∧ e' 9 = x9 ∧ e' 10 = x10 ∧ e' 11 = x11 ∧ e' 12 = .ms 5 4097 0 4097 4 true) → R (.exit 2) e' [a0, a1, a2, a3, a4, rowF 4097 4097 mr]) :
    wpIter 6 (some [1, 5, 7, 9, 10, 11, 12, 111, 112]) (wc Tryd.prog pol (ans Tryd.prog pol) (inl Tryd.prog pol (ans Tryd.prog pol) 5000 2) 5000 7 il7l1) R 5000 e [a0, a1, a2, a3, a4, rowF 4097 0 0] := by
  have f0 := hf a0 (by simp)
  have f1 := hf a1 (by simp)
  have f2 := hf a2 (by simp)
  have f3 := hf a3 (by simp)
  have f4 := hf a4 (by simp)
  refine loop_upto 4097 (step := fun i (_ : Unit) => Ctl.go ()) (fin := id)
    (St := fun i _ e h => (e 1 = x1 ∧ e 5 = x5 ∧ e 7 = x7 ∧ e 9 = x9 ∧ e 10 = x10 ∧ e 11 = x11 ∧ e 12 = .ms 5 4097 0 4097 4 true ∧ e 111 = .t (J ((4097 : Nat) : Int)) ∧ e 112 = .t (J (i : Nat))) ∧ ∃ mr, mr ≤ 4097 ∧ h = [a0, a1, a2, a3, a4, rowF 4097 i mr])
    (Ex := fun _ x e h => (e 1 = x1 ∧ e 5 = x5 ∧ e 7 = x7 ∧ e 9 = x9 ∧ e 10 = x10 ∧ e 11 = x11 ∧ e 12 = .ms 5 4097 0 4097 4 true) ∧ x = .exit 2 ∧ ∃ mr, mr ≤ 4097 ∧ h = [a0, a1, a2, a3, a4, rowF 4097 4097 mr]) (s := ()) (by omega) ?_ ?_ (by omega) ?_ ?_
  · intro i _ e h Y R hi hlt hw ⟨hs, mr, hmr, hh⟩ hk
    subst hh
    simp only [ctlK_go] at hk
    have hlt' : decide ((i : Int) < 4097) = true := hlt
    have hset := fillL_set (f := gF) (z := zN) hi rfl
    have hlen := fillL_len gF zN (Nat.le_of_lt hi)
    simp only [rowF] at hk ⊢
    generalize hL : fillL gF zN 4097 i = L at *
    obtain ⟨old, hold⟩ : ∃ w, L[i]? = some w := ⟨L[i]'(by omega), by simp⟩
    have hget : (List.map AV.t (List.map encN L))[i]? = some (.t (encN old)) := map_get (enc := encN) hold
    have hst' := map_set (enc := encN) (l := L) (i := i) (x := gF i)
    rw [hset] at hst'
    simp only [encN, gF] at hst' hget
    (simp only [il7l1_go, il7l1b, go_sem, reduceIte, Nat.reduceEqDiff, Nat.reduceAdd, Int.reduceEq, Nat.reduceLeDiff, Nat.reduceLT, Nat.reduceBEq, Nat.reduceMul, Nat.reduceSub, Int.reduceToNat, Int.reduceLE, Int.reduceLT, Int.reduceAdd, Int.reduceSub, Int.reduceMul, Int.reduceNeg, Int.reduceDiv, Int.reduceMod, Int.reduceTDiv, Int.reduceTMod, Int.reducePow, hs, hlt', hw, got_ans, hget, hlen, hmr, hi, hst', f0, f1, f2, f3, f4, frz_rowM', frz_rowF] <;> (repeat' ((first | with_reducible refine brG_intro (fun hc => ?_) (fun hc => ?_) | with_reducible refine brC_intro (fun hc => ?_) (fun hc => ?_) | ((with_reducible refine c_opsD ?_); have hc := @List.length_nil Nat) | ((with_reducible refine c_opsT ?_); have hc := @List.length_nil Nat) | ((with_reducible refine and_crit ?_ ?_); rfl; have hc := @List.length_nil Nat) | ((with_reducible refine crit_done ?_); rfl) | ((with_reducible refine mkC_go (fun _ => ?_)); have hc := @List.length_nil Nat) | ((with_reducible refine mkL_go (fun _ => ?_)); have hc := @List.length_nil Nat)) <;> (try simp only [Bool.not_eq_true', Bool.not_eq_false', Bool.not_true, Bool.not_false] at hc) <;> (try simp only [hc, go_sem, reduceIte, Nat.reduceEqDiff, Nat.reduceAdd, Int.reduceEq, Nat.reduceLeDiff, Nat.reduceLT, Nat.reduceBEq, Nat.reduceMul, Nat.reduceSub, Int.reduceToNat, Int.reduceLE, Int.reduceLT, Int.reduceAdd, Int.reduceSub, Int.reduceMul, Int.reduceNeg, Int.reduceDiv, Int.reduceMod, Int.reduceTDiv, Int.reduceTMod, Int.reducePow, hs, hlt', hw, got_ans, hget, hlen, hmr, hi, hst', f0, f1, f2, f3, f4, frz_rowM', frz_rowF]))))
    all_goals (refine hk _ _ ⟨?_, 4097, Nat.le_refl _, ?_⟩ <;> simp only [go_sem, reduceIte, Nat.reduceEqDiff, Nat.reduceAdd, Int.reduceEq, Nat.reduceLeDiff, Nat.reduceLT, Nat.reduceBEq, Nat.reduceMul, Nat.reduceSub, Int.reduceToNat, Int.reduceLE, Int.reduceLT, Int.reduceAdd, Int.reduceSub, Int.reduceMul, Int.reduceNeg, Int.reduceDiv, Int.reduceMod, Int.reduceTDiv, Int.reduceTMod, Int.reducePow, hs, hw])
  · intro _ e h Y R hlt ⟨hs, mr, hmr, hh⟩ hk
    subst hh
    have hlt' : decide ((4097 : Int) < 4097) = false := by decide
    (simp only [il7l1_go, il7l1b, go_sem, reduceIte, Nat.reduceEqDiff, Nat.reduceAdd, Int.reduceEq, Nat.reduceLeDiff, Nat.reduceLT, Nat.reduceBEq, Nat.reduceMul, Nat.reduceSub, Int.reduceToNat, Int.reduceLE, Int.reduceLT, Int.reduceAdd, Int.reduceSub, Int.reduceMul, Int.reduceNeg, Int.reduceDiv, Int.reduceMod, Int.reduceTDiv, Int.reduceTMod, Int.reducePow, hs, hlt'] <;> (repeat' ((first | with_reducible refine brG_intro (fun hc => ?_) (fun hc => ?_) | with_reducible refine brC_intro (fun hc => ?_) (fun hc => ?_) | ((with_reducible refine c_opsD ?_); have hc := @List.length_nil Nat) | ((with_reducible refine c_opsT ?_); have hc := @List.length_nil Nat) | ((with_reducible refine and_crit ?_ ?_); rfl; have hc := @List.length_nil Nat) | ((with_reducible refine crit_done ?_); rfl) | ((with_reducible refine mkC_go (fun _ => ?_)); have hc := @List.length_nil Nat) | ((with_reducible refine mkL_go (fun _ => ?_)); have hc := @List.length_nil Nat)) <;> (try simp only [Bool.not_eq_true', Bool.not_eq_false', Bool.not_true, Bool.not_false] at hc) <;> (try simp only [hc, go_sem, reduceIte, Nat.reduceEqDiff, Nat.reduceAdd, Int.reduceEq, Nat.reduceLeDiff, Nat.reduceLT, Nat.reduceBEq, Nat.reduceMul, Nat.reduceSub, Int.reduceToNat, Int.reduceLE, Int.reduceLT, Int.reduceAdd, Int.reduceSub, Int.reduceMul, Int.reduceNeg, Int.reduceDiv, Int.reduceMod, Int.reduceTDiv, Int.reduceTMod, Int.reducePow, hs, hlt']))))
    all_goals (refine hk _ _ _ ⟨?_, rfl, mr, hmr, rfl⟩ <;> simp only [go_sem, reduceIte, Nat.reduceEqDiff, Nat.reduceAdd, Int.reduceEq, Nat.reduceLeDiff, Nat.reduceLT, Nat.reduceBEq, Nat.reduceMul, Nat.reduceSub, Int.reduceToNat, Int.reduceLE, Int.reduceLT, Int.reduceAdd, Int.reduceSub, Int.reduceMul, Int.reduceNeg, Int.reduceDiv, Int.reduceMod, Int.reduceTDiv, Int.reduceTMod, Int.reducePow, hs])
  · exact ⟨he, 0, by omega, rfl⟩
  · intro x e h ⟨h1, h2, mr, hmr, h3⟩
    subst h2 h3
    exact hR e mr hmr h1

def lg (n : Nat) : List Nt := List.replicate n ⟨2, 0, 0, 7⟩
theorem lg_len (n : Nat) : (lg n).length = n := by simp [lg]
theorem rowF_all (n mr : Nat) : rowF n n mr = .row 4 (((lg n).map encN).map .t) mr := by
  unfold rowF lg
  rw [fillL_all, show gF = Function.const Nat (⟨2, 0, 0, 7⟩ : Nt) from rfl, List.map_const, List.length_range]
theorem lg_chk : ∀ (n : Nat) (b : Int), b ≤ 7 → chkN b (lg n) = true := by
  intro n
  induction n with
  | zero => intro b _; rfl
  | succ n ih =>
    intro b hb
    rw [lg, List.replicate_succ, chkN, Bool.and_eq_true]
    exact ⟨decide_eq_true ⟨.inr rfl, ⟨by decide, by decide⟩, ⟨by decide, by decide⟩, hb, by decide⟩, ih 7 (by decide)⟩
theorem lg_dl (n : Nat) (s : Int) : dlF s (lg n) = [] := by
  have key : ∀ (l : List Nt) (i : Nat) (z : List Int), (∀ x ∈ l, x ∈ lg n) → foldC (fun i x (z : List Int) => Ctl.go (z ++ dl1 s ((lg n).take i) x)) id i l z = z := by
    intro l
    induction l with
    | nil => intro i z _; rfl
    | cons x l ih =>
      intro i z hm
      have hd : dl1 s ((lg n).take i) x = [] := by
        unfold dl1
        split
        · have : fst1 1 s x.q ((lg n).take i) = none := by
            refine fst1_none.mpr fun y hy => ?_
            have := List.mem_of_mem_take hy
            have hy2 : y = ⟨2, 0, 0, 7⟩ := by unfold lg at this; exact (List.mem_replicate.mp this).2
            subst hy2
            rfl
          rw [this]
        · rfl
      rw [foldC_go (s' := z ++ dl1 s ((lg n).take i) x) rfl, hd, List.append_nil]
      exact ih (i + 1) z (fun y hy => hm y (List.mem_cons_of_mem _ hy))
  exact key (lg n) 0 [] (fun x hx => hx)
theorem es_a (a0 a1 a2 a3 a4 : AObj) (mr : Nat) (hmr : mr ≤ 4097) (hs : Heap) : elemsOf (a0 :: a1 :: a2 :: a3 :: a4 :: .row 4 (((lg 4097).map encN).map .t) mr :: hs) 4 (.ms 5 4097 0 4097 4 true) = some (((lg 4097).map encN).map .t) := by
  have : ((((lg 4097).map encN).map AV.t).length) = 4097 := by simp [lg_len]
  simp only [elemsOf, List.getElem?_cons_succ, List.getElem?_cons_zero, true_and]
  rw [if_pos ⟨hmr, by omega, by omega⟩, List.drop_zero, List.take_of_length_le (by omega)]
theorem es_b (a0 a1 a2 a3 a4 : AObj) (mr : Nat) (hmr : mr ≤ 4097) (hs : Heap) : elemsOf (a0 :: a1 :: a2 :: a3 :: a4 :: .row 4 (((lg 4097).map encN).map .t) mr :: hs) 4 (.ms 5 4097 1 4096 4 true) = some (((lg 4096).map encN).map .t) := by
  have : ((((lg 4097).map encN).map AV.t).length) = 4097 := by simp [lg_len]
  simp only [elemsOf, List.getElem?_cons_succ, List.getElem?_cons_zero, true_and]
  rw [if_pos ⟨hmr, by omega, by omega⟩]
  have : (((lg 4097).map encN).map AV.t).drop 1 = ((lg 4096).map encN).map AV.t := by rw [lg, List.replicate_succ]; rfl
  rw [this, List.take_of_length_le (by simp [lg_len])]

theorem auditKnown_ans : ans Tryd.prog pol 7 [] = some (B true) := by
  refine ans_go 5000 2 il7_eq (Nat.le_of_ble_eq_true rfl) ?_
  (simp only [il7c, go_sem, reduceIte, Nat.reduceEqDiff, Nat.reduceAdd, Int.reduceEq, Nat.reduceLeDiff, Nat.reduceLT, Nat.reduceBEq, Nat.reduceMul, Nat.reduceSub, Int.reduceToNat, Int.reduceLE, Int.reduceLT, Int.reduceAdd, Int.reduceSub, Int.reduceMul, Int.reduceNeg, Int.reduceDiv, Int.reduceMod, Int.reduceTDiv, Int.reduceTMod, Int.reducePow, works44_ans, sent_ans, got_ans, fi1, fi2, fi3, fi4, fi5, fi6, fi7] <;> (repeat' ((first | with_reducible refine brG_intro (fun hc => ?_) (fun hc => ?_) | with_reducible refine brC_intro (fun hc => ?_) (fun hc => ?_) | ((with_reducible refine c_opsD ?_); have hc := @List.length_nil Nat) | ((with_reducible refine c_opsT ?_); have hc := @List.length_nil Nat) | ((with_reducible refine and_crit ?_ ?_); rfl; have hc := @List.length_nil Nat) | ((with_reducible refine crit_done ?_); rfl) | ((with_reducible refine mkC_go (fun _ => ?_)); have hc := @List.length_nil Nat) | ((with_reducible refine mkL_go (fun _ => ?_)); have hc := @List.length_nil Nat)) <;> (try simp only [Bool.not_eq_true', Bool.not_eq_false', Bool.not_true, Bool.not_false] at hc) <;> (try simp only [hc, go_sem, reduceIte, Nat.reduceEqDiff, Nat.reduceAdd, Int.reduceEq, Nat.reduceLeDiff, Nat.reduceLT, Nat.reduceBEq, Nat.reduceMul, Nat.reduceSub, Int.reduceToNat, Int.reduceLE, Int.reduceLT, Int.reduceAdd, Int.reduceSub, Int.reduceMul, Int.reduceNeg, Int.reduceDiv, Int.reduceMod, Int.reduceTDiv, Int.reduceTMod, Int.reducePow, works44_ans, sent_ans, got_ans, fi1, fi2, fi3, fi4, fi5, fi6, fi7]))))
  refine loop_upto 13 (step := fun i (z : List Ru) => Ctl.go (z ++ [⟨((i + 1 : Nat) : Int), 0, 0, false⟩])) (fin := id)
    (St := fun i z e h => (e 1 = .t (B true) ∧ e 2 = .ms 0 z.length 0 z.length 4 false ∧ e 74 = .t (J (i : Nat))) ∧ h = [rowG 4 encR z] ∧ z.length ≤ i)
    (Ex := fun z x e h => (e 1 = .t (B true) ∧ e 2 = .ms 0 z.length 0 z.length 4 false) ∧ x = .exit 0 ∧ h = [rowG 4 encR z]) (s := []) (by omega) ?_ ?_ (by omega) ?_ ?_
  · intro i z e h Y R hi hlt hw ⟨hs, hh, hz⟩ hk
    subst hh
    have hroom : (z.length + 1) * 32 ≤ roomB := ap_room (by omega) (by omega)
    have hz1 : (z ++ [(⟨((i + 1 : Nat) : Int), 0, 0, false⟩ : Ru)]).length ≤ i + 1 := by rw [List.length_append]; simp; omega
    have hl : decide ((i : Int) < 13) = true := hlt
    simp only [ctlK_go] at hk
    (simp only [il7l0_go, il7l0b, go_sem, reduceIte, Nat.reduceEqDiff, Nat.reduceAdd, Int.reduceEq, Nat.reduceLeDiff, Nat.reduceLT, Nat.reduceBEq, Nat.reduceMul, Nat.reduceSub, Int.reduceToNat, Int.reduceLE, Int.reduceLT, Int.reduceAdd, Int.reduceSub, Int.reduceMul, Int.reduceNeg, Int.reduceDiv, Int.reduceMod, Int.reduceTDiv, Int.reduceTMod, Int.reducePow, hs, hl, hw, rowG_is, rowG_es, rowG_mr, hroom] <;> (repeat' ((first | with_reducible refine brG_intro (fun hc => ?_) (fun hc => ?_) | with_reducible refine brC_intro (fun hc => ?_) (fun hc => ?_) | ((with_reducible refine c_opsD ?_); have hc := @List.length_nil Nat) | ((with_reducible refine c_opsT ?_); have hc := @List.length_nil Nat) | ((with_reducible refine and_crit ?_ ?_); rfl; have hc := @List.length_nil Nat) | ((with_reducible refine crit_done ?_); rfl) | ((with_reducible refine mkC_go (fun _ => ?_)); have hc := @List.length_nil Nat) | ((with_reducible refine mkL_go (fun _ => ?_)); have hc := @List.length_nil Nat)) <;> (try simp only [Bool.not_eq_true', Bool.not_eq_false', Bool.not_true, Bool.not_false] at hc) <;> (try simp only [hc, go_sem, reduceIte, Nat.reduceEqDiff, Nat.reduceAdd, Int.reduceEq, Nat.reduceLeDiff, Nat.reduceLT, Nat.reduceBEq, Nat.reduceMul, Nat.reduceSub, Int.reduceToNat, Int.reduceLE, Int.reduceLT, Int.reduceAdd, Int.reduceSub, Int.reduceMul, Int.reduceNeg, Int.reduceDiv, Int.reduceMod, Int.reduceTDiv, Int.reduceTMod, Int.reducePow, hs, hl, hw, rowG_is, rowG_es, rowG_mr, hroom]))))
    all_goals (refine hk _ _ ⟨?_, ?_, hz1⟩ <;> simp only [go_sem, reduceIte, Nat.reduceEqDiff, Nat.reduceAdd, Int.reduceEq, Nat.reduceLeDiff, Nat.reduceLT, Nat.reduceBEq, Nat.reduceMul, Nat.reduceSub, Int.reduceToNat, Int.reduceLE, Int.reduceLT, Int.reduceAdd, Int.reduceSub, Int.reduceMul, Int.reduceNeg, Int.reduceDiv, Int.reduceMod, Int.reduceTDiv, Int.reduceTMod, Int.reducePow, hs, hw, ← rowG_push, encR, List.length_append])
  · intro z e h Y R hlt ⟨hs, hh, _⟩ hk
    subst hh
    have hl : decide ((13 : Int) < 13) = false := by decide
    (simp only [il7l0_go, il7l0b, go_sem, reduceIte, Nat.reduceEqDiff, Nat.reduceAdd, Int.reduceEq, Nat.reduceLeDiff, Nat.reduceLT, Nat.reduceBEq, Nat.reduceMul, Nat.reduceSub, Int.reduceToNat, Int.reduceLE, Int.reduceLT, Int.reduceAdd, Int.reduceSub, Int.reduceMul, Int.reduceNeg, Int.reduceDiv, Int.reduceMod, Int.reduceTDiv, Int.reduceTMod, Int.reducePow, hs, hl] <;> (repeat' ((first | with_reducible refine brG_intro (fun hc => ?_) (fun hc => ?_) | with_reducible refine brC_intro (fun hc => ?_) (fun hc => ?_) | ((with_reducible refine c_opsD ?_); have hc := @List.length_nil Nat) | ((with_reducible refine c_opsT ?_); have hc := @List.length_nil Nat) | ((with_reducible refine and_crit ?_ ?_); rfl; have hc := @List.length_nil Nat) | ((with_reducible refine crit_done ?_); rfl) | ((with_reducible refine mkC_go (fun _ => ?_)); have hc := @List.length_nil Nat) | ((with_reducible refine mkL_go (fun _ => ?_)); have hc := @List.length_nil Nat)) <;> (try simp only [Bool.not_eq_true', Bool.not_eq_false', Bool.not_true, Bool.not_false] at hc) <;> (try simp only [hc, go_sem, reduceIte, Nat.reduceEqDiff, Nat.reduceAdd, Int.reduceEq, Nat.reduceLeDiff, Nat.reduceLT, Nat.reduceBEq, Nat.reduceMul, Nat.reduceSub, Int.reduceToNat, Int.reduceLE, Int.reduceLT, Int.reduceAdd, Int.reduceSub, Int.reduceMul, Int.reduceNeg, Int.reduceDiv, Int.reduceMod, Int.reduceTDiv, Int.reduceTMod, Int.reducePow, hs, hl]))))
    all_goals (refine hk _ _ _ ⟨?_, rfl, rfl⟩ <;> simp only [go_sem, reduceIte, Nat.reduceEqDiff, Nat.reduceAdd, Int.reduceEq, Nat.reduceLeDiff, Nat.reduceLT, Nat.reduceBEq, Nat.reduceMul, Nat.reduceSub, Int.reduceToNat, Int.reduceLE, Int.reduceLT, Int.reduceAdd, Int.reduceSub, Int.reduceMul, Int.reduceNeg, Int.reduceDiv, Int.reduceMod, Int.reduceTDiv, Int.reduceTMod, Int.reducePow, hs, id])
  · refine ⟨?_, rfl, by simp⟩
    simp only [go_sem, reduceIte, Nat.reduceEqDiff, Nat.reduceAdd, Int.reduceEq, Nat.reduceLeDiff, Nat.reduceLT, Nat.reduceBEq, Nat.reduceMul, Nat.reduceSub, Int.reduceToNat, Int.reduceLE, Int.reduceLT, Int.reduceAdd, Int.reduceSub, Int.reduceMul, Int.reduceNeg, Int.reduceDiv, Int.reduceMod, Int.reduceTDiv, Int.reduceTMod, Int.reducePow]
  · intro x e h' ⟨h1, h2, h3⟩
    subst h2 h3
    rw [many_all] at h1
    simp only [many_all]
    have hl : (many 13).length = 13 := by simp [many]
    rw [hl] at h1
    have es := es13
    have es2 := es12
    have m1 := au1
    have m2 := au2
    have m3 := au3
    generalize (many 12).map encR = M12 at es2 m2 m3
    generalize hM : many 13 = M at h1 hl es es2 m1
    have hsl : iSlice 4 (AV.ms 0 13 0 13 4 false) none (some (AV.t (T.sc (Value.int IntKind.i64 12)))) none = some (.ms 0 13 0 12 4 false) := by kernel_rfl
    (simp only [il7c, go_sem, reduceIte, Nat.reduceEqDiff, Nat.reduceAdd, Int.reduceEq, Nat.reduceLeDiff, Nat.reduceLT, Nat.reduceBEq, Nat.reduceMul, Nat.reduceSub, Int.reduceToNat, Int.reduceLE, Int.reduceLT, Int.reduceAdd, Int.reduceSub, Int.reduceMul, Int.reduceNeg, Int.reduceDiv, Int.reduceMod, Int.reduceTDiv, Int.reduceTMod, Int.reducePow, h1, hl, es, es2, hsl, frz_rowG', m1, m2, m3, au4, raw7_17_0, mkF, frz_rowF] <;> (repeat' ((first | with_reducible refine brG_intro (fun hc => ?_) (fun hc => ?_) | with_reducible refine brC_intro (fun hc => ?_) (fun hc => ?_) | ((with_reducible refine c_opsD ?_); have hc := @List.length_nil Nat) | ((with_reducible refine c_opsT ?_); have hc := @List.length_nil Nat) | ((with_reducible refine and_crit ?_ ?_); rfl; have hc := @List.length_nil Nat) | ((with_reducible refine crit_done ?_); rfl) | ((with_reducible refine mkC_go (fun _ => ?_)); have hc := @List.length_nil Nat) | ((with_reducible refine mkL_go (fun _ => ?_)); have hc := @List.length_nil Nat)) <;> (try simp only [Bool.not_eq_true', Bool.not_eq_false', Bool.not_true, Bool.not_false] at hc) <;> (try simp only [hc, go_sem, reduceIte, Nat.reduceEqDiff, Nat.reduceAdd, Int.reduceEq, Nat.reduceLeDiff, Nat.reduceLT, Nat.reduceBEq, Nat.reduceMul, Nat.reduceSub, Int.reduceToNat, Int.reduceLE, Int.reduceLT, Int.reduceAdd, Int.reduceSub, Int.reduceMul, Int.reduceNeg, Int.reduceDiv, Int.reduceMod, Int.reduceTDiv, Int.reduceTMod, Int.reducePow, h1, hl, es, es2, hsl, frz_rowG', m1, m2, m3, au4, raw7_17_0, mkF, frz_rowF]))))
    with_reducible refine fill_loop _ _ _ _ _ ?_ _ _ (.t (B true)) (.t (J 541)) (.t (J 540)) (.t (J 2)) (.ref 4 1 0 0) (.t (J 0)) ?_ ?_
    · intro x hx h p
      simp only [List.mem_cons, List.not_mem_nil, or_false] at hx
      rcases hx with rfl | rfl | rfl | rfl | rfl
      · exact frz_rowG'
      all_goals rfl
    · simp only [go_sem, reduceIte, Nat.reduceEqDiff, Nat.reduceAdd, Int.reduceEq, Nat.reduceLeDiff, Nat.reduceLT, Nat.reduceBEq, Nat.reduceMul, Nat.reduceSub, Int.reduceToNat, Int.reduceLE, Int.reduceLT, Int.reduceAdd, Int.reduceSub, Int.reduceMul, Int.reduceNeg, Int.reduceDiv, Int.reduceMod, Int.reduceTDiv, Int.reduceTMod, Int.reducePow]
    · intro e' mr hmr h1
      rw [rowF_all]
      have n1 := delays_bad true (lg 4097) 0 (by rw [lg_len]; omega)
      have n2 := delays_ans true (lg 4096) 0 ⟨by rw [lg_len]; omega, lg_chk _ _ (by decide)⟩ ⟨by decide, by decide⟩
      rw [lg_dl] at n2
      have hdr : ((lg 4097).map encN).drop 1 = (lg 4096).map encN := by rw [lg, List.replicate_succ]; rfl
      have hll : ((lg 4097).map encN).length = 4097 := by simp [lg_len]
      have hsl2 : iSlice 4 (AV.t (.sl true 4 ((lg 4097).map encN))) (some (AV.t (T.sc (Value.int IntKind.i64 1)))) none none = some (.t (.sl true 4 ((lg 4096).map encN))) := by
        simp [iSlice, optNat, asNat, hll, ← hdr, List.take_of_length_le (Nat.le_of_eq hll)]
      have hfz : ∀ (p : Nat → Bool), p 5 = true → ∀ a0 a1 a2 a3 a4 : AObj, ∀ hs, frz (a0 :: a1 :: a2 :: a3 :: a4 :: .row 4 (((lg 4097).map encN).map .t) mr :: hs) p (.ms 5 4097 0 4097 4 true) = some (.t (.sl true 4 ((lg 4097).map encN))) :=
        fun p hp a0 a1 a2 a3 a4 hs => frz_msr hp rfl hmr (lg_len 4097).symm
      generalize lg 4097 = L1 at n1 hsl2 hfz ⊢
      generalize lg 4096 = L2 at n2 hsl2
      (simp only [il7c, go_sem, reduceIte, Nat.reduceEqDiff, Nat.reduceAdd, Int.reduceEq, Nat.reduceLeDiff, Nat.reduceLT, Nat.reduceBEq, Nat.reduceMul, Nat.reduceSub, Int.reduceToNat, Int.reduceLE, Int.reduceLT, Int.reduceAdd, Int.reduceSub, Int.reduceMul, Int.reduceNeg, Int.reduceDiv, Int.reduceMod, Int.reduceTDiv, Int.reduceTMod, Int.reducePow, h1, works44_ans, hfz, n1, n2, hsl2, beq_self_eq_true, say1, ch1, raw7_26_16, frz_rowG', frz_rowM'] <;> (repeat' ((first | with_reducible refine brG_intro (fun hc => ?_) (fun hc => ?_) | with_reducible refine brC_intro (fun hc => ?_) (fun hc => ?_) | ((with_reducible refine c_opsD ?_); have hc := @List.length_nil Nat) | ((with_reducible refine c_opsT ?_); have hc := @List.length_nil Nat) | ((with_reducible refine and_crit ?_ ?_); rfl; have hc := @List.length_nil Nat) | ((with_reducible refine crit_done ?_); rfl) | ((with_reducible refine mkC_go (fun _ => ?_)); have hc := @List.length_nil Nat) | ((with_reducible refine mkL_go (fun _ => ?_)); have hc := @List.length_nil Nat)) <;> (try simp only [Bool.not_eq_true', Bool.not_eq_false', Bool.not_true, Bool.not_false] at hc) <;> (try simp only [hc, go_sem, reduceIte, Nat.reduceEqDiff, Nat.reduceAdd, Int.reduceEq, Nat.reduceLeDiff, Nat.reduceLT, Nat.reduceBEq, Nat.reduceMul, Nat.reduceSub, Int.reduceToNat, Int.reduceLE, Int.reduceLT, Int.reduceAdd, Int.reduceSub, Int.reduceMul, Int.reduceNeg, Int.reduceDiv, Int.reduceMod, Int.reduceTDiv, Int.reduceTMod, Int.reducePow, h1, works44_ans, hfz, n1, n2, hsl2, beq_self_eq_true, say1, ch1, raw7_26_16, frz_rowG', frz_rowM']))))
end Go.Proofs.YthcaepnclhgkmaaDoor
