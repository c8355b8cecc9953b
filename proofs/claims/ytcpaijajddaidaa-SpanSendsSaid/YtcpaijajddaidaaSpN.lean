/- A bridge with what it knows of its root. -/
import Derived.Test.YtcpaijajddaidaaSpM
namespace Go.Proofs.Ytcpaijajddaidaa
open Go Go.Abs
set_option linter.unusedSimpArgs false
set_option linter.unusedVariables false
set_option maxRecDepth 100000
set_option maxHeartbeats 1000000

structure Os' where
  t : Tp
  m : Hd
  w : Nat
def tp0 (b : Br) : Tp := ⟨b.p, b.n, 0, -1, 0⟩
def opS (b : Br) (s : Os') (i : Nat) : Os' := if s.t.via < 0 ∨ lt6 (ofr b i) s.m < 0 then ⟨⟨(ofr b i).a, (ofr b i).b, (ofr b i).c, i, (ofr b i).g⟩, ofr b i, 1⟩ else s
def opF (b : Br) : Os' := (List.range b.heard.length).foldl (ldS b (opS b)) ⟨tp0 b, zH, 0⟩
abbrev zS : T := .agg [I 0, I 0, .sc (.slice none 0 0), .sc (.slice none 0 0), .sc (.slice none 0 0), I 0, I 0, I 0, I 0, I 0]

noncomputable def lpQ (rf : Code × Code) (E : FEnv) : AObj := .loop 44 (lpEnv 50 (tidyF (some [1, 5, 6]) E)) [22, 23] rf.1 rf.2 false none
noncomputable def hpQ (rf : Code × Code) (c1 c2 c3 : Bool) (b : Br) (E : FEnv) (s : Os') : Heap := [.row 10 [.t zS] 0, .row 10 [.t (sbT c1 c2 c3 b s.t)] 1, .row 6 [.t (rkT s.m)] (min s.w 1), lpQ rf E]

theorem open_yield (rf : Code × Code) (hrf : rfOf Try.prog 44 0 = rf) (c1 c2 c3 : Bool) (b : Br) (E : FEnv) (hE : E 1 = .t (.ip (brC c1 c2 c3 b)) ∧ E 5 = .ref 1 1 0 0 ∧ E 6 = .ref 2 1 0 0) (dd nn : Nat) (s : Os') (i : Nat) (hi : i < b.heard.length) (X : Heap) (Q : AV → Heap → Prop)
    (hQ : ∀ X', Q (.t (B true)) (hpQ rf c1 c2 c3 b E (opS b s i) ++ X ++ X')) :
    oB (inl Try.prog pol (ans Try.prog pol) nn (dd + 1) (.yl 3) [.t (I (i : Nat)), .t (rkT (ofr b i))] (hpQ rf c1 c2 c3 b E s ++ X)) Q := by
  subst hrf
  have hg : (b.heard.map encH)[i]? = some (encH (hrd b i)) := by simp [hrd, hi]
  have k1 := compH_ans (ofr b i) s.m
  have hgg : (ofr b i).g = (hrd b i).g := rfl
  have hmr : min s.w 1 ≤ 1 := Nat.min_le_right _ _
  have hq := hQ [.row 6 [.t (rkT (ofr b i))] 1]
  simp only [hpQ, lpQ] at hq ⊢
  refine oB_yl (E := tidyF (some [1, 5, 6]) E) rfl rfl rfl il44r0a_eq il44r0b_eq ?_
  by_cases q0 : s.t.via < 0
  · have d0 : decide (s.t.via < 0) = true := decide_eq_true q0
    rw [opS, if_pos (.inl q0)] at hq
    simp only [hgg] at hq
    generalize ofr b i = v at *
    simp only [List.cons_append, List.nil_append] at hq
    (simp only [il44r0a, il44r0b, go_sem, reduceIte, Nat.reduceEqDiff, Nat.reduceAdd, Int.reduceEq, Nat.reduceLeDiff, Nat.reduceLT, Nat.reduceBEq, Nat.reduceMul, Nat.reduceSub, Int.reduceToNat, Int.reduceLE, Int.reduceLT, Int.reduceAdd, Int.reduceSub, Int.reduceMul, Int.reduceNeg, Int.reduceDiv, Int.reduceMod, Int.reduceTDiv, Int.reduceTMod, Int.reducePow, hE, hg, encH_cells, d0, get_last, set_last, hmr] <;> (repeat' ((first | with_reducible refine brG_intro (fun hc => ?_) (fun hc => ?_) | with_reducible refine brC_intro (fun hc => ?_) (fun hc => ?_) | ((with_reducible refine c_opsD ?_); have hc := @List.length_nil Nat) | ((with_reducible refine c_opsT ?_); have hc := @List.length_nil Nat) | ((with_reducible refine and_crit ?_ ?_); rfl; have hc := @List.length_nil Nat) | ((with_reducible refine crit_done ?_); rfl) | ((with_reducible refine mkC_go (fun _ => ?_)); have hc := @List.length_nil Nat) | ((with_reducible refine mkL_go (fun _ => ?_)); have hc := @List.length_nil Nat)) <;> (try simp only [Bool.not_eq_true', Bool.not_eq_false', Bool.not_true, Bool.not_false] at hc) <;> (try simp only [hc, go_sem, reduceIte, Nat.reduceEqDiff, Nat.reduceAdd, Int.reduceEq, Nat.reduceLeDiff, Nat.reduceLT, Nat.reduceBEq, Nat.reduceMul, Nat.reduceSub, Int.reduceToNat, Int.reduceLE, Int.reduceLT, Int.reduceAdd, Int.reduceSub, Int.reduceMul, Int.reduceNeg, Int.reduceDiv, Int.reduceMod, Int.reduceTDiv, Int.reduceTMod, Int.reducePow, hE, hg, encH_cells, d0, get_last, set_last, hmr]))))
    all_goals exact hq
  · have d0 : decide (s.t.via < 0) = false := decide_eq_false q0
    by_cases q1 : lt6 (ofr b i) s.m < 0
    · have d1 : decide (lt6 (ofr b i) s.m < 0) = true := decide_eq_true q1
      rw [opS, if_pos (.inr q1)] at hq
      simp only [hgg] at hq
      generalize ofr b i = v at *
      simp only [List.cons_append, List.nil_append] at hq
      (simp only [il44r0a, il44r0b, go_sem, reduceIte, Nat.reduceEqDiff, Nat.reduceAdd, Int.reduceEq, Nat.reduceLeDiff, Nat.reduceLT, Nat.reduceBEq, Nat.reduceMul, Nat.reduceSub, Int.reduceToNat, Int.reduceLE, Int.reduceLT, Int.reduceAdd, Int.reduceSub, Int.reduceMul, Int.reduceNeg, Int.reduceDiv, Int.reduceMod, Int.reduceTDiv, Int.reduceTMod, Int.reducePow, hE, hg, encH_cells, d0, k1, d1, get_last, set_last, hmr] <;> (repeat' ((first | with_reducible refine brG_intro (fun hc => ?_) (fun hc => ?_) | with_reducible refine brC_intro (fun hc => ?_) (fun hc => ?_) | ((with_reducible refine c_opsD ?_); have hc := @List.length_nil Nat) | ((with_reducible refine c_opsT ?_); have hc := @List.length_nil Nat) | ((with_reducible refine and_crit ?_ ?_); rfl; have hc := @List.length_nil Nat) | ((with_reducible refine crit_done ?_); rfl) | ((with_reducible refine mkC_go (fun _ => ?_)); have hc := @List.length_nil Nat) | ((with_reducible refine mkL_go (fun _ => ?_)); have hc := @List.length_nil Nat)) <;> (try simp only [Bool.not_eq_true', Bool.not_eq_false', Bool.not_true, Bool.not_false] at hc) <;> (try simp only [hc, go_sem, reduceIte, Nat.reduceEqDiff, Nat.reduceAdd, Int.reduceEq, Nat.reduceLeDiff, Nat.reduceLT, Nat.reduceBEq, Nat.reduceMul, Nat.reduceSub, Int.reduceToNat, Int.reduceLE, Int.reduceLT, Int.reduceAdd, Int.reduceSub, Int.reduceMul, Int.reduceNeg, Int.reduceDiv, Int.reduceMod, Int.reduceTDiv, Int.reduceTMod, Int.reducePow, hE, hg, encH_cells, d0, k1, d1, get_last, set_last, hmr]))))
      all_goals exact hq
    · have d1 : decide (lt6 (ofr b i) s.m < 0) = false := decide_eq_false q1
      rw [opS, if_neg (by rintro (h | h); exact q0 h; exact q1 h)] at hq
      generalize ofr b i = v at *
      simp only [List.cons_append, List.nil_append] at hq
      (simp only [il44r0a, il44r0b, go_sem, reduceIte, Nat.reduceEqDiff, Nat.reduceAdd, Int.reduceEq, Nat.reduceLeDiff, Nat.reduceLT, Nat.reduceBEq, Nat.reduceMul, Nat.reduceSub, Int.reduceToNat, Int.reduceLE, Int.reduceLT, Int.reduceAdd, Int.reduceSub, Int.reduceMul, Int.reduceNeg, Int.reduceDiv, Int.reduceMod, Int.reduceTDiv, Int.reduceTMod, Int.reducePow, hE, hg, encH_cells, d0, k1, d1, get_last, set_last, hmr] <;> (repeat' ((first | with_reducible refine brG_intro (fun hc => ?_) (fun hc => ?_) | with_reducible refine brC_intro (fun hc => ?_) (fun hc => ?_) | ((with_reducible refine c_opsD ?_); have hc := @List.length_nil Nat) | ((with_reducible refine c_opsT ?_); have hc := @List.length_nil Nat) | ((with_reducible refine and_crit ?_ ?_); rfl; have hc := @List.length_nil Nat) | ((with_reducible refine crit_done ?_); rfl) | ((with_reducible refine mkC_go (fun _ => ?_)); have hc := @List.length_nil Nat) | ((with_reducible refine mkL_go (fun _ => ?_)); have hc := @List.length_nil Nat)) <;> (try simp only [Bool.not_eq_true', Bool.not_eq_false', Bool.not_true, Bool.not_false] at hc) <;> (try simp only [hc, go_sem, reduceIte, Nat.reduceEqDiff, Nat.reduceAdd, Int.reduceEq, Nat.reduceLeDiff, Nat.reduceLT, Nat.reduceBEq, Nat.reduceMul, Nat.reduceSub, Int.reduceToNat, Int.reduceLE, Int.reduceLT, Int.reduceAdd, Int.reduceSub, Int.reduceMul, Int.reduceNeg, Int.reduceDiv, Int.reduceMod, Int.reduceTDiv, Int.reduceTMod, Int.reducePow, hE, hg, encH_cells, d0, k1, d1, get_last, set_last, hmr]))))
      all_goals exact hq

theorem hpQ_frz (rf : Code × Code) (c1 c2 c3 : Bool) (b : Br) (E : FEnv) (hE : E 5 = .ref 1 1 0 0 ∧ E 6 = .ref 2 1 0 0) (x : T) (h1 : E 1 = .t x) (s : Os') (h : Heap) (q : Nat) (hq : 4 ≤ q) : mapO (frzObj h (fromB q)) (hpQ rf c1 c2 c3 b E s) = some (hpQ rf c1 c2 c3 b E s) := by
  have f1 : decide (q ≤ 1) = false := decide_eq_false (by omega)
  have f2 : decide (q ≤ 2) = false := decide_eq_false (by omega)
  have h4 : frzObj h (fromB q) (lpQ rf E) = some (lpQ rf E) := by
    rw [lpQ, frz_loop]
    simp only [go_sem, reduceIte, Nat.reduceEqDiff, Nat.reduceAdd, Int.reduceEq, Nat.reduceLeDiff, Nat.reduceLT, Nat.reduceBEq, Nat.reduceMul, Nat.reduceSub, Int.reduceToNat, Int.reduceLE, Int.reduceLT, Int.reduceAdd, Int.reduceSub, Int.reduceMul, Int.reduceNeg, Int.reduceDiv, Int.reduceMod, Int.reduceTDiv, Int.reduceTMod, Int.reducePow, hE, h1, f1, f2]
  have hr : ∀ (k mr : Nat) (x : T), frzObj h (fromB q) (.row k [.t x] mr) = some (.row k [.t x] mr) := by intro k mr x; simp [frzObj, avoidAll, avoid]
  simp only [hpQ, mapO, hr, h4]

theorem open_bad (c1 c2 c3 : Bool) (b : Br) (hb : okB b = false) : ans Try.prog pol 44 [brT c1 c2 c3 b] = some (.tup [zS, I 290]) := by
  have k1 := chk_bad (c1 := c1) (c2 := c2) (c3 := c3) hb
  refine ans_go 1 1 il44_eq (Nat.le_of_ble_eq_true rfl) ?_
  (simp only [il44c, go_sem, reduceIte, Nat.reduceEqDiff, Nat.reduceAdd, Int.reduceEq, Nat.reduceLeDiff, Nat.reduceLT, Nat.reduceBEq, Nat.reduceMul, Nat.reduceSub, Int.reduceToNat, Int.reduceLE, Int.reduceLT, Int.reduceAdd, Int.reduceSub, Int.reduceMul, Int.reduceNeg, Int.reduceDiv, Int.reduceMod, Int.reduceTDiv, Int.reduceTMod, Int.reducePow, k1] <;> (repeat' ((first | with_reducible refine brG_intro (fun hc => ?_) (fun hc => ?_) | with_reducible refine brC_intro (fun hc => ?_) (fun hc => ?_) | ((with_reducible refine c_opsD ?_); have hc := @List.length_nil Nat) | ((with_reducible refine c_opsT ?_); have hc := @List.length_nil Nat) | ((with_reducible refine and_crit ?_ ?_); rfl; have hc := @List.length_nil Nat) | ((with_reducible refine crit_done ?_); rfl) | ((with_reducible refine mkC_go (fun _ => ?_)); have hc := @List.length_nil Nat) | ((with_reducible refine mkL_go (fun _ => ?_)); have hc := @List.length_nil Nat)) <;> (try simp only [Bool.not_eq_true', Bool.not_eq_false', Bool.not_true, Bool.not_false] at hc) <;> (try simp only [hc, go_sem, reduceIte, Nat.reduceEqDiff, Nat.reduceAdd, Int.reduceEq, Nat.reduceLeDiff, Nat.reduceLT, Nat.reduceBEq, Nat.reduceMul, Nat.reduceSub, Int.reduceToNat, Int.reduceLE, Int.reduceLT, Int.reduceAdd, Int.reduceSub, Int.reduceMul, Int.reduceNeg, Int.reduceDiv, Int.reduceMod, Int.reduceTDiv, Int.reduceTMod, Int.reducePow, k1]))))

theorem ofr_bound {b : Br} (h : okB b = true) (i : Nat) (hi : i < b.heard.length) : -1000000000 ≤ (ofr b i).c ∧ (ofr b i).c ≤ 1000000000 := by
  have hl := okB_len h
  simp only [okL] at hl
  have h2 := okB_at h (i := i) (by omega)
  rw [okAt, decide_eq_true_eq] at h2
  have hc := h2.2.2.1
  have hh := h2.2.2.2
  simp only [ofr]
  cases hx : (hrd b i).is with
  | true => have := hh.1 hx; simp only [helloP] at this; omega
  | false => have := hh.2 hx; rw [this]; simp only [zH]; omega

theorem open_ok (c1 c2 c3 : Bool) (b : Br) (hb : okB b = true) : ans Try.prog pol 44 [brT c1 c2 c3 b] = some (.tup [sbT c1 c2 c3 b (opF b).t, I 0]) := by
  have k1 := chk_ok (c1 := c1) (c2 := c2) (c3 := c3) hb
  have hl := okB_len hb
  simp only [okL] at hl
  have k2 := offers_ans c1 c2 c3 b (tp0 b)
  simp only [tp0] at k2
  refine ans_go 200 5 il44_eq (Nat.le_of_ble_eq_true rfl) ?_
  simp only [il44c]
  generalize hrf : rfOf Try.prog 44 0 = rf
  (simp only [il44c, go_sem, reduceIte, Nat.reduceEqDiff, Nat.reduceAdd, Int.reduceEq, Nat.reduceLeDiff, Nat.reduceLT, Nat.reduceBEq, Nat.reduceMul, Nat.reduceSub, Int.reduceToNat, Int.reduceLE, Int.reduceLT, Int.reduceAdd, Int.reduceSub, Int.reduceMul, Int.reduceNeg, Int.reduceDiv, Int.reduceMod, Int.reduceTDiv, Int.reduceTMod, Int.reducePow, k1, k2] <;> (repeat' ((first | with_reducible refine brG_intro (fun hc => ?_) (fun hc => ?_) | with_reducible refine brC_intro (fun hc => ?_) (fun hc => ?_) | ((with_reducible refine c_opsD ?_); have hc := @List.length_nil Nat) | ((with_reducible refine c_opsT ?_); have hc := @List.length_nil Nat) | ((with_reducible refine and_crit ?_ ?_); rfl; have hc := @List.length_nil Nat) | ((with_reducible refine crit_done ?_); rfl) | ((with_reducible refine mkC_go (fun _ => ?_)); have hc := @List.length_nil Nat) | ((with_reducible refine mkL_go (fun _ => ?_)); have hc := @List.length_nil Nat)) <;> (try simp only [Bool.not_eq_true', Bool.not_eq_false', Bool.not_true, Bool.not_false] at hc) <;> (try simp only [hc, go_sem, reduceIte, Nat.reduceEqDiff, Nat.reduceAdd, Int.reduceEq, Nat.reduceLeDiff, Nat.reduceLT, Nat.reduceBEq, Nat.reduceMul, Nat.reduceSub, Int.reduceToNat, Int.reduceLE, Int.reduceLT, Int.reduceAdd, Int.reduceSub, Int.reduceMul, Int.reduceNeg, Int.reduceDiv, Int.reduceMod, Int.reduceTDiv, Int.reduceTMod, Int.reducePow, k1, k2]))))
  have key : ∀ E : FEnv, ([.row 10 [.t zS] 0, .row 10 [.t (.agg [I b.p, I b.n, .sl c1 1 (b.ports.map I), .sl c2 1 (b.costs.map I), .sl c3 8 (b.heard.map encH), I b.p, I b.n, I 0, I (-1), I 0])] 1, .row 6 [.t (.agg [I 0, I 0, I 0, I 0, I 0, I 0])] 0, .loop 44 (lpEnv 50 (tidyF (some [1, 5, 6]) E)) [22, 23] rf.1 rf.2 false none] : Heap) = hpQ rf c1 c2 c3 b E ⟨tp0 b, zH, 0⟩ := fun E => rfl
  rw [key]
  have h200 : 100 < 200 := by omega
  have h34 : 3 < 4 := by omega
  have hcl : b.costs.length = b.heard.length := by omega
  have hhl : b.heard.length ≤ 24 := by omega
  have hbd := ofr_bound hb
  with_reducible refine sp_iter (fun s => hpQ rf c1 c2 c3 b _ s) 4 (fun s => rfl) (opS b) 4 200 3 b ?_ ?_ h34 c1 c2 c3 ⟨b.p, b.n, 0, -1, 0⟩ hhl hcl hbd ⟨tp0 b, zH, 0⟩ _ h200 ?_
  · intro s i X Q hi hld hQ
    exact open_yield rf hrf c1 c2 c3 b _ (by simp only [go_sem, reduceIte, Nat.reduceEqDiff, Nat.reduceAdd, Int.reduceEq, Nat.reduceLeDiff, Nat.reduceLT, Nat.reduceBEq, Nat.reduceMul, Nat.reduceSub, Int.reduceToNat, Int.reduceLE, Int.reduceLT, Int.reduceAdd, Int.reduceSub, Int.reduceMul, Int.reduceNeg, Int.reduceDiv, Int.reduceMod, Int.reduceTDiv, Int.reduceTMod, Int.reducePow]) 3 200 s i hi X Q hQ
  · intro s h q hq
    exact hpQ_frz rf c1 c2 c3 b _ (by simp only [go_sem, reduceIte, Nat.reduceEqDiff, Nat.reduceAdd, Int.reduceEq, Nat.reduceLeDiff, Nat.reduceLT, Nat.reduceBEq, Nat.reduceMul, Nat.reduceSub, Int.reduceToNat, Int.reduceLE, Int.reduceLT, Int.reduceAdd, Int.reduceSub, Int.reduceMul, Int.reduceNeg, Int.reduceDiv, Int.reduceMod, Int.reduceTDiv, Int.reduceTMod, Int.reducePow]) (.ip (brC c1 c2 c3 b)) (by simp only [go_sem, reduceIte, Nat.reduceEqDiff, Nat.reduceAdd, Int.reduceEq, Nat.reduceLeDiff, Nat.reduceLT, Nat.reduceBEq, Nat.reduceMul, Nat.reduceSub, Int.reduceToNat, Int.reduceLE, Int.reduceLT, Int.reduceAdd, Int.reduceSub, Int.reduceMul, Int.reduceNeg, Int.reduceDiv, Int.reduceMod, Int.reduceTDiv, Int.reduceTMod, Int.reducePow]) s h q hq
  · intro x
    change rfEnd _ _ _ x (hpQ rf c1 c2 c3 b _ (opF b))
    generalize opF b = s
    have hmr : min s.w 1 ≤ 1 := Nat.min_le_right _ _
    simp only [hpQ, lpQ]
    have hr : ∀ (h : Heap) (k mr : Nat) (x : T), frzObj h (fromB 3) (.row k [.t x] mr) = some (.row k [.t x] mr) := by intro h k mr x; simp [frzObj, avoidAll, avoid]
    (simp only [il44c, go_sem, reduceIte, Nat.reduceEqDiff, Nat.reduceAdd, Int.reduceEq, Nat.reduceLeDiff, Nat.reduceLT, Nat.reduceBEq, Nat.reduceMul, Nat.reduceSub, Int.reduceToNat, Int.reduceLE, Int.reduceLT, Int.reduceAdd, Int.reduceSub, Int.reduceMul, Int.reduceNeg, Int.reduceDiv, Int.reduceMod, Int.reduceTDiv, Int.reduceTMod, Int.reducePow, hr, hmr] <;> (repeat' ((first | with_reducible refine brG_intro (fun hc => ?_) (fun hc => ?_) | with_reducible refine brC_intro (fun hc => ?_) (fun hc => ?_) | ((with_reducible refine c_opsD ?_); have hc := @List.length_nil Nat) | ((with_reducible refine c_opsT ?_); have hc := @List.length_nil Nat) | ((with_reducible refine and_crit ?_ ?_); rfl; have hc := @List.length_nil Nat) | ((with_reducible refine crit_done ?_); rfl) | ((with_reducible refine mkC_go (fun _ => ?_)); have hc := @List.length_nil Nat) | ((with_reducible refine mkL_go (fun _ => ?_)); have hc := @List.length_nil Nat)) <;> (try simp only [Bool.not_eq_true', Bool.not_eq_false', Bool.not_true, Bool.not_false] at hc) <;> (try simp only [hc, go_sem, reduceIte, Nat.reduceEqDiff, Nat.reduceAdd, Int.reduceEq, Nat.reduceLeDiff, Nat.reduceLT, Nat.reduceBEq, Nat.reduceMul, Nat.reduceSub, Int.reduceToNat, Int.reduceLE, Int.reduceLT, Int.reduceAdd, Int.reduceSub, Int.reduceMul, Int.reduceNeg, Int.reduceDiv, Int.reduceMod, Int.reduceTDiv, Int.reduceTMod, Int.reducePow, hr, hmr]))))

end Go.Proofs.Ytcpaijajddaidaa
