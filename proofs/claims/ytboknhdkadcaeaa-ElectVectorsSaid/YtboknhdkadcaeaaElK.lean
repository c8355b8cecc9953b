/- Elect; the law ElectSettles. -/
import Derived.Test.YtboknhdkadcaeaaElI
namespace Go.Proofs.Ytboknhdkadcaeaa
open Go Go.Abs
set_option linter.unusedSimpArgs false
set_option linter.unusedVariables false
set_option maxRecDepth 100000
set_option maxHeartbeats 4000000

theorem codeOwn_ans (ms : List Ms) (lk : List (Int × Int)) (i : Nat) (hi : i < ms.length) : ans Try.prog pol 35 [spT ms lk, I' (i : Nat)] = some (vcT (ownV ms i)) := by
  have h := own_ans ms lk i (msAt ms i) (by simp [msAt, hi])
  exact h

/-- Vectors whose steps are small. -/
def smallV (v : List Vc) : Prop := ∀ w ∈ v, -1000 ≤ w.st ∧ w.st ≤ 1000
theorem vAt_mem {v : List Vc} {w : Vc} (h : w ∈ v) : ∃ i, i < v.length ∧ vAt v i = w := by
  obtain ⟨i, hi⟩ := List.mem_iff_getElem?.1 h
  refine ⟨i, (List.getElem?_eq_some_iff.1 hi).1, by simp [vAt, hi]⟩
theorem vAt_in {v : List Vc} {i : Nat} (h : i < v.length) : vAt v i ∈ v := by simp [vAt, h]
theorem small_round {ms : List Ms} {lk : List (Int × Int)} (hn : Net ms lk) {v : List Vc} (hv : v.length = ms.length) (hs : smallV v) : smallV (roundL ms lk v) := by
  intro w hw
  obtain ⟨i, hi, rfl⟩ := vAt_mem hw
  rw [roundL_len] at hi
  rw [roundL_at hi]
  obtain ⟨h1, _, _⟩ := bestAt_spec hn hv i
  rcases h1 with h1 | ⟨k, j, ha, hj, h1⟩
  · rw [h1]; simp [ownV]
  · have := hs _ (vAt_in (i := j) (by rw [hv]; exact (adj_of hn ha).2.1))
    rw [h1]; simp only; omega
theorem small_own (ms : List Ms) : smallV (ownL ms) := by
  intro w hw
  simp only [ownL, List.mem_map] at hw
  obtain ⟨i, _, rfl⟩ := hw
  simp [ownV]
theorem small_rounds {ms : List Ms} {lk : List (Int × Int)} (hn : Net ms lk) {v : List Vc} (hv : v.length = ms.length) (hs : smallV v) : ∀ t, smallV (roundsL ms lk t v) := by
  intro t
  induction t with
  | zero => exact hs
  | succ t ih => exact small_round hn (rounds_len hv t) ih

theorem Elect_bad (ms : List Ms) (lk : List (Int × Int)) (h : okS ms lk = false) : ans Try.prog pol 20 [spT ms lk] = some (.tup [.sc (.slice none 0 0), I' 210]) := by
  have c1 := check_ans ms lk
  rw [h] at c1
  simp only [Bool.false_eq_true, if_false] at c1
  refine ans_go 1 1 il20_eq (Nat.le_of_ble_eq_true rfl) ?_
  (simp only [il20c, go_sem, reduceIte, Nat.reduceEqDiff, Nat.reduceAdd, Int.reduceEq, Nat.reduceLeDiff, Nat.reduceLT, Nat.reduceBEq, Nat.reduceMul, Nat.reduceSub, Int.reduceToNat, Int.reduceLE, Int.reduceLT, Int.reduceAdd, Int.reduceSub, Int.reduceMul, Int.reduceNeg, Int.reduceDiv, Int.reduceMod, Int.reduceTDiv, Int.reduceTMod, Int.reducePow, c1] <;> (repeat' ((first | with_reducible refine brG_intro (fun hc => ?_) (fun hc => ?_) | with_reducible refine brC_intro (fun hc => ?_) (fun hc => ?_) | ((with_reducible refine c_opsD ?_); have hc := @List.length_nil Nat) | ((with_reducible refine c_opsT ?_); have hc := @List.length_nil Nat) | ((with_reducible refine and_crit ?_ ?_); rfl; have hc := @List.length_nil Nat) | ((with_reducible refine crit_done ?_); rfl) | ((with_reducible refine mkC_go (fun _ => ?_)); have hc := @List.length_nil Nat) | ((with_reducible refine mkL_go (fun _ => ?_)); have hc := @List.length_nil Nat)) <;> (try simp only [Bool.not_eq_true', Bool.not_eq_false', Bool.not_true, Bool.not_false] at hc) <;> (try simp only [hc, go_sem, reduceIte, Nat.reduceEqDiff, Nat.reduceAdd, Int.reduceEq, Nat.reduceLeDiff, Nat.reduceLT, Nat.reduceBEq, Nat.reduceMul, Nat.reduceSub, Int.reduceToNat, Int.reduceLE, Int.reduceLT, Int.reduceAdd, Int.reduceSub, Int.reduceMul, Int.reduceNeg, Int.reduceDiv, Int.reduceMod, Int.reduceTDiv, Int.reduceTMod, Int.reducePow, c1]))))

theorem Elect_ok (ms : List Ms) (lk : List (Int × Int)) (hok : okS ms lk = true) : ans Try.prog pol 20 [spT ms lk] = some (.tup [.sl true 9 ((roundsL ms lk 12 (ownL ms)).map encV), I' 0]) := by
  obtain ⟨hl1, hl2⟩ := okS_len hok
  have hn := net_of hok
  have c1 := check_ans ms lk
  rw [if_pos hok] at c1
  have hroom : 72 * ms.length ≤ roomB := by rw [Nat.mul_comm]; exact ap_room (by omega) (by omega)
  have hbig : ms.length ≤ 9223372036854775807 := by omega
  refine ans_go 200 5 il20_eq (Nat.le_of_ble_eq_true rfl) ?_
  (simp only [il20c, go_sem, reduceIte, Nat.reduceEqDiff, Nat.reduceAdd, Int.reduceEq, Nat.reduceLeDiff, Nat.reduceLT, Nat.reduceBEq, Nat.reduceMul, Nat.reduceSub, Int.reduceToNat, Int.reduceLE, Int.reduceLT, Int.reduceAdd, Int.reduceSub, Int.reduceMul, Int.reduceNeg, Int.reduceDiv, Int.reduceMod, Int.reduceTDiv, Int.reduceTMod, Int.reducePow, c1, hroom, hbig] <;> (repeat' ((first | with_reducible refine brG_intro (fun hc => ?_) (fun hc => ?_) | with_reducible refine brC_intro (fun hc => ?_) (fun hc => ?_) | ((with_reducible refine c_opsD ?_); have hc := @List.length_nil Nat) | ((with_reducible refine c_opsT ?_); have hc := @List.length_nil Nat) | ((with_reducible refine and_crit ?_ ?_); rfl; have hc := @List.length_nil Nat) | ((with_reducible refine crit_done ?_); rfl) | ((with_reducible refine mkC_go (fun _ => ?_)); have hc := @List.length_nil Nat) | ((with_reducible refine mkL_go (fun _ => ?_)); have hc := @List.length_nil Nat)) <;> (try simp only [Bool.not_eq_true', Bool.not_eq_false', Bool.not_true, Bool.not_false] at hc) <;> (try simp only [hc, go_sem, reduceIte, Nat.reduceEqDiff, Nat.reduceAdd, Int.reduceEq, Nat.reduceLeDiff, Nat.reduceLT, Nat.reduceBEq, Nat.reduceMul, Nat.reduceSub, Int.reduceToNat, Int.reduceLE, Int.reduceLT, Int.reduceAdd, Int.reduceSub, Int.reduceMul, Int.reduceNeg, Int.reduceDiv, Int.reduceMod, Int.reduceTDiv, Int.reduceTMod, Int.reducePow, c1, hroom, hbig]))))
  refine loop_upto ms.length (step := fun i (_ : Unit) => Ctl.go ()) (fin := id)
    (St := fun i _ e h => (e 1 = .t (.ip [.sl false 6 (ms.map encMs), .sl false 2 (lk.map encLk)]) ∧ e 5 = .ref 1 1 0 0 ∧ e 18 = .t (I' (ms.length : Nat)) ∧ e 19 = .t (I' (i : Nat))) ∧ ∃ mr, mr ≤ ms.length ∧ h = [.row 9 (((fillL (ownV ms) (⟨⟨0, 0, 0, 0, 0, 0⟩, 0, 0, 0⟩ : Vc) ms.length i).map encV).map .t) mr, .row 1 [.ms 0 ms.length 0 ms.length 9 true] 1])
    (Ex := fun _ x e h => (e 1 = .t (.ip [.sl false 6 (ms.map encMs), .sl false 2 (lk.map encLk)]) ∧ e 5 = .ref 1 1 0 0) ∧ x = .exit 0 ∧ ∃ mr, mr ≤ ms.length ∧ h = [.row 9 (((ownL ms).map encV).map .t) mr, .row 1 [.ms 0 ms.length 0 ms.length 9 true] 1]) (s := ()) (by omega) ?_ ?_ (by omega) ?_ ?_
  · intro i _ e h Y R hi hlt hw ⟨hs, mr, hmr, hh⟩ hk
    subst hh
    simp only [ctlK_go] at hk
    have c2 := codeOwn_ans ms lk i hi
    have hset := fillL_set (f := ownV ms) (z := (⟨⟨0, 0, 0, 0, 0, 0⟩, 0, 0, 0⟩ : Vc)) hi rfl
    have hlen := fillL_len (ownV ms) (⟨⟨0, 0, 0, 0, 0, 0⟩, 0, 0, 0⟩ : Vc) (Nat.le_of_lt hi)
    generalize hL : fillL (ownV ms) (⟨⟨0, 0, 0, 0, 0, 0⟩, 0, 0, 0⟩ : Vc) ms.length i = L at *
    obtain ⟨old, hold⟩ : ∃ w, L[i]? = some w := ⟨L[i]'(by omega), by simp⟩
    have hget : (List.map AV.t (List.map encV L))[i]? = some (.t (vcT old)) := map_get (enc := encV) hold
    have hst' := map_set (enc := encV) (l := L) (i := i) (x := ownV ms i)
    rw [hset] at hst'
    simp only [encV] at hst'
    generalize hB : ownV ms i = b at *
    (simp only [il20l0_go, il20l0b, go_sem, reduceIte, Nat.reduceEqDiff, Nat.reduceAdd, Int.reduceEq, Nat.reduceLeDiff, Nat.reduceLT, Nat.reduceBEq, Nat.reduceMul, Nat.reduceSub, Int.reduceToNat, Int.reduceLE, Int.reduceLT, Int.reduceAdd, Int.reduceSub, Int.reduceMul, Int.reduceNeg, Int.reduceDiv, Int.reduceMod, Int.reduceTDiv, Int.reduceTMod, Int.reducePow, hs, hlt, frz_rowM, c2, hget, hlen, hmr, hi, hw, hst'] <;> (repeat' ((first | with_reducible refine brG_intro (fun hc => ?_) (fun hc => ?_) | with_reducible refine brC_intro (fun hc => ?_) (fun hc => ?_) | ((with_reducible refine c_opsD ?_); have hc := @List.length_nil Nat) | ((with_reducible refine c_opsT ?_); have hc := @List.length_nil Nat) | ((with_reducible refine and_crit ?_ ?_); rfl; have hc := @List.length_nil Nat) | ((with_reducible refine crit_done ?_); rfl) | ((with_reducible refine mkC_go (fun _ => ?_)); have hc := @List.length_nil Nat) | ((with_reducible refine mkL_go (fun _ => ?_)); have hc := @List.length_nil Nat)) <;> (try simp only [Bool.not_eq_true', Bool.not_eq_false', Bool.not_true, Bool.not_false] at hc) <;> (try simp only [hc, go_sem, reduceIte, Nat.reduceEqDiff, Nat.reduceAdd, Int.reduceEq, Nat.reduceLeDiff, Nat.reduceLT, Nat.reduceBEq, Nat.reduceMul, Nat.reduceSub, Int.reduceToNat, Int.reduceLE, Int.reduceLT, Int.reduceAdd, Int.reduceSub, Int.reduceMul, Int.reduceNeg, Int.reduceDiv, Int.reduceMod, Int.reduceTDiv, Int.reduceTMod, Int.reducePow, hs, hlt, frz_rowM, c2, hget, hlen, hmr, hi, hw, hst']))))
    all_goals (refine hk _ _ ⟨?_, ms.length, Nat.le_refl _, ?_⟩ <;> simp only [go_sem, reduceIte, Nat.reduceEqDiff, Nat.reduceAdd, Int.reduceEq, Nat.reduceLeDiff, Nat.reduceLT, Nat.reduceBEq, Nat.reduceMul, Nat.reduceSub, Int.reduceToNat, Int.reduceLE, Int.reduceLT, Int.reduceAdd, Int.reduceSub, Int.reduceMul, Int.reduceNeg, Int.reduceDiv, Int.reduceMod, Int.reduceTDiv, Int.reduceTMod, Int.reducePow, hs, hw])
  · intro _ e h Y R hlt ⟨hs, mr, hmr, hh⟩ hk
    subst hh
    (simp only [il20l0_go, il20l0b, go_sem, reduceIte, Nat.reduceEqDiff, Nat.reduceAdd, Int.reduceEq, Nat.reduceLeDiff, Nat.reduceLT, Nat.reduceBEq, Nat.reduceMul, Nat.reduceSub, Int.reduceToNat, Int.reduceLE, Int.reduceLT, Int.reduceAdd, Int.reduceSub, Int.reduceMul, Int.reduceNeg, Int.reduceDiv, Int.reduceMod, Int.reduceTDiv, Int.reduceTMod, Int.reducePow, hs, hlt] <;> (repeat' ((first | with_reducible refine brG_intro (fun hc => ?_) (fun hc => ?_) | with_reducible refine brC_intro (fun hc => ?_) (fun hc => ?_) | ((with_reducible refine c_opsD ?_); have hc := @List.length_nil Nat) | ((with_reducible refine c_opsT ?_); have hc := @List.length_nil Nat) | ((with_reducible refine and_crit ?_ ?_); rfl; have hc := @List.length_nil Nat) | ((with_reducible refine crit_done ?_); rfl) | ((with_reducible refine mkC_go (fun _ => ?_)); have hc := @List.length_nil Nat) | ((with_reducible refine mkL_go (fun _ => ?_)); have hc := @List.length_nil Nat)) <;> (try simp only [Bool.not_eq_true', Bool.not_eq_false', Bool.not_true, Bool.not_false] at hc) <;> (try simp only [hc, go_sem, reduceIte, Nat.reduceEqDiff, Nat.reduceAdd, Int.reduceEq, Nat.reduceLeDiff, Nat.reduceLT, Nat.reduceBEq, Nat.reduceMul, Nat.reduceSub, Int.reduceToNat, Int.reduceLE, Int.reduceLT, Int.reduceAdd, Int.reduceSub, Int.reduceMul, Int.reduceNeg, Int.reduceDiv, Int.reduceMod, Int.reduceTDiv, Int.reduceTMod, Int.reducePow, hs, hlt]))))
    all_goals (refine hk _ _ _ ⟨?_, rfl, mr, hmr, ?_⟩ <;> (try simp only [go_sem, reduceIte, Nat.reduceEqDiff, Nat.reduceAdd, Int.reduceEq, Nat.reduceLeDiff, Nat.reduceLT, Nat.reduceBEq, Nat.reduceMul, Nat.reduceSub, Int.reduceToNat, Int.reduceLE, Int.reduceLT, Int.reduceAdd, Int.reduceSub, Int.reduceMul, Int.reduceNeg, Int.reduceDiv, Int.reduceMod, Int.reduceTDiv, Int.reduceTMod, Int.reducePow, hs]))
    all_goals simp only [fillL_all, ownL, id]
  · refine ⟨?_, 0, by omega, ?_⟩
    · simp only [go_sem, reduceIte, Nat.reduceEqDiff, Nat.reduceAdd, Int.reduceEq, Nat.reduceLeDiff, Nat.reduceLT, Nat.reduceBEq, Nat.reduceMul, Nat.reduceSub, Int.reduceToNat, Int.reduceLE, Int.reduceLT, Int.reduceAdd, Int.reduceSub, Int.reduceMul, Int.reduceNeg, Int.reduceDiv, Int.reduceMod, Int.reduceTDiv, Int.reduceTMod, Int.reducePow]
    · rw [fillL_zero]; simp [encV]
  · intro x e h ⟨h1, h2, mr, hmr, h3⟩
    subst h2 h3
    have hol : (ownL ms).length = ms.length := by simp [ownL]
    (simp only [il20c, go_sem, reduceIte, Nat.reduceEqDiff, Nat.reduceAdd, Int.reduceEq, Nat.reduceLeDiff, Nat.reduceLT, Nat.reduceBEq, Nat.reduceMul, Nat.reduceSub, Int.reduceToNat, Int.reduceLE, Int.reduceLT, Int.reduceAdd, Int.reduceSub, Int.reduceMul, Int.reduceNeg, Int.reduceDiv, Int.reduceMod, Int.reduceTDiv, Int.reduceTMod, Int.reducePow, h1] <;> (repeat' ((first | with_reducible refine brG_intro (fun hc => ?_) (fun hc => ?_) | with_reducible refine brC_intro (fun hc => ?_) (fun hc => ?_) | ((with_reducible refine c_opsD ?_); have hc := @List.length_nil Nat) | ((with_reducible refine c_opsT ?_); have hc := @List.length_nil Nat) | ((with_reducible refine and_crit ?_ ?_); rfl; have hc := @List.length_nil Nat) | ((with_reducible refine crit_done ?_); rfl) | ((with_reducible refine mkC_go (fun _ => ?_)); have hc := @List.length_nil Nat) | ((with_reducible refine mkL_go (fun _ => ?_)); have hc := @List.length_nil Nat)) <;> (try simp only [Bool.not_eq_true', Bool.not_eq_false', Bool.not_true, Bool.not_false] at hc) <;> (try simp only [hc, go_sem, reduceIte, Nat.reduceEqDiff, Nat.reduceAdd, Int.reduceEq, Nat.reduceLeDiff, Nat.reduceLT, Nat.reduceBEq, Nat.reduceMul, Nat.reduceSub, Int.reduceToNat, Int.reduceLE, Int.reduceLT, Int.reduceAdd, Int.reduceSub, Int.reduceMul, Int.reduceNeg, Int.reduceDiv, Int.reduceMod, Int.reduceTDiv, Int.reduceTMod, Int.reducePow, h1]))))
    refine loop_upto 12 (step := fun i (_ : Unit) => Ctl.go ()) (fin := id)
      (St := fun i _ e h => (e 5 = .ref 1 1 0 0 ∧ e 7 = .fn (.func 38) [] [.t (.ip [.sl false 6 (ms.map encMs), .sl false 2 (lk.map encLk)]), .ref 1 1 0 0] ∧ e 30 = .t (I' (i : Nat))) ∧ (i = 0 ∧ h = [.row 9 (((ownL ms).map encV).map .t) mr, .row 1 [.ms 0 ms.length 0 ms.length 9 true] 1] ∨ h = [.gone, .row 1 [.t (.sl true 9 ((roundsL ms lk i (ownL ms)).map encV))] 1]))
      (Ex := fun _ x e h => e 5 = .ref 1 1 0 0 ∧ x = .exit 2 ∧ h = [.gone, .row 1 [.t (.sl true 9 ((roundsL ms lk 12 (ownL ms)).map encV))] 1]) (s := ()) (by omega) ?_ ?_ (by omega) ?_ ?_
    · intro i _ e h Y R hi _ hw ⟨hs, hh⟩ hk
      simp only [ctlK_go] at hk
      have hlt : decide ((i : Int) < 12) = true := decide_eq_true (by omega)
      have c2 := round_ans true ms lk (roundsL ms lk i (ownL ms)) hl1.2 hl2 (rounds_len hol i) (small_rounds hn hol (small_own ms) i) (lks_in hok (rounds_len hol i))
      rcases hh with ⟨rfl, rfl⟩ | rfl
      · have e0 : roundsL ms lk 0 (ownL ms) = ownL ms := rfl
        rw [e0] at c2
        have e1 : roundsL ms lk 1 (ownL ms) = roundL ms lk (ownL ms) := rfl
        rw [Nat.zero_add, e1] at hk
        generalize ownL ms = v at *
        have hfr : frz [.row 9 ((v.map encV).map .t) mr, .row 1 [.ms 0 ms.length 0 ms.length 9 true] 1] (fun o => o == 0) (.ms 0 ms.length 0 ms.length 9 true) = some (.t (.sl true 9 (v.map encV))) := frz_msr rfl rfl hmr hol.symm
        have hfo : frzObj [.row 9 ((v.map encV).map .t) mr, .row 1 [.ms 0 ms.length 0 ms.length 9 true] 1] (fun o => o == 0) (.row 1 [.ms 0 ms.length 0 ms.length 9 true] 1) = some (.row 1 [.t (.sl true 9 (v.map encV))] 1) := by
          simp only [frzObj, mapO, hfr, avoidAll, avoid, beq_self_eq_true, Bool.not_true, Bool.false_and, Bool.false_eq_true, if_false]
        (simp only [il20l1_go, il20l1b, go_sem, reduceIte, Nat.reduceEqDiff, Nat.reduceAdd, Int.reduceEq, Nat.reduceLeDiff, Nat.reduceLT, Nat.reduceBEq, Nat.reduceMul, Nat.reduceSub, Int.reduceToNat, Int.reduceLE, Int.reduceLT, Int.reduceAdd, Int.reduceSub, Int.reduceMul, Int.reduceNeg, Int.reduceDiv, Int.reduceMod, Int.reduceTDiv, Int.reduceTMod, Int.reducePow, hs, hlt, hw, frz_rowM, c2, hmr, hol, hfr, hfo] <;> (repeat' ((first | with_reducible refine brG_intro (fun hc => ?_) (fun hc => ?_) | with_reducible refine brC_intro (fun hc => ?_) (fun hc => ?_) | ((with_reducible refine c_opsD ?_); have hc := @List.length_nil Nat) | ((with_reducible refine c_opsT ?_); have hc := @List.length_nil Nat) | ((with_reducible refine and_crit ?_ ?_); rfl; have hc := @List.length_nil Nat) | ((with_reducible refine crit_done ?_); rfl) | ((with_reducible refine mkC_go (fun _ => ?_)); have hc := @List.length_nil Nat) | ((with_reducible refine mkL_go (fun _ => ?_)); have hc := @List.length_nil Nat) | ((with_reducible refine oB_inl il38_eq ?_ ?_); exact Nat.le_of_ble_eq_true rfl; simp only [il38c]; have hc := @List.length_nil Nat)) <;> (try simp only [Bool.not_eq_true', Bool.not_eq_false', Bool.not_true, Bool.not_false] at hc) <;> (try simp only [hc, go_sem, reduceIte, Nat.reduceEqDiff, Nat.reduceAdd, Int.reduceEq, Nat.reduceLeDiff, Nat.reduceLT, Nat.reduceBEq, Nat.reduceMul, Nat.reduceSub, Int.reduceToNat, Int.reduceLE, Int.reduceLT, Int.reduceAdd, Int.reduceSub, Int.reduceMul, Int.reduceNeg, Int.reduceDiv, Int.reduceMod, Int.reduceTDiv, Int.reduceTMod, Int.reducePow, hs, hlt, hw, frz_rowM, c2, hmr, hol, hfr, hfo]))))
        all_goals (refine hk _ _ ⟨?_, .inr ?_⟩ <;> simp only [go_sem, reduceIte, Nat.reduceEqDiff, Nat.reduceAdd, Int.reduceEq, Nat.reduceLeDiff, Nat.reduceLT, Nat.reduceBEq, Nat.reduceMul, Nat.reduceSub, Int.reduceToNat, Int.reduceLE, Int.reduceLT, Int.reduceAdd, Int.reduceSub, Int.reduceMul, Int.reduceNeg, Int.reduceDiv, Int.reduceMod, Int.reduceTDiv, Int.reduceTMod, Int.reducePow, hs, hw])
      · have e1 : roundsL ms lk (i + 1) (ownL ms) = roundL ms lk (roundsL ms lk i (ownL ms)) := rfl
        rw [e1] at hk
        generalize roundsL ms lk i (ownL ms) = v at *
        (simp only [il20l1_go, il20l1b, go_sem, reduceIte, Nat.reduceEqDiff, Nat.reduceAdd, Int.reduceEq, Nat.reduceLeDiff, Nat.reduceLT, Nat.reduceBEq, Nat.reduceMul, Nat.reduceSub, Int.reduceToNat, Int.reduceLE, Int.reduceLT, Int.reduceAdd, Int.reduceSub, Int.reduceMul, Int.reduceNeg, Int.reduceDiv, Int.reduceMod, Int.reduceTDiv, Int.reduceTMod, Int.reducePow, hs, hlt, hw, frz_rowM, c2] <;> (repeat' ((first | with_reducible refine brG_intro (fun hc => ?_) (fun hc => ?_) | with_reducible refine brC_intro (fun hc => ?_) (fun hc => ?_) | ((with_reducible refine c_opsD ?_); have hc := @List.length_nil Nat) | ((with_reducible refine c_opsT ?_); have hc := @List.length_nil Nat) | ((with_reducible refine and_crit ?_ ?_); rfl; have hc := @List.length_nil Nat) | ((with_reducible refine crit_done ?_); rfl) | ((with_reducible refine mkC_go (fun _ => ?_)); have hc := @List.length_nil Nat) | ((with_reducible refine mkL_go (fun _ => ?_)); have hc := @List.length_nil Nat) | ((with_reducible refine oB_inl il38_eq ?_ ?_); exact Nat.le_of_ble_eq_true rfl; simp only [il38c]; have hc := @List.length_nil Nat)) <;> (try simp only [Bool.not_eq_true', Bool.not_eq_false', Bool.not_true, Bool.not_false] at hc) <;> (try simp only [hc, go_sem, reduceIte, Nat.reduceEqDiff, Nat.reduceAdd, Int.reduceEq, Nat.reduceLeDiff, Nat.reduceLT, Nat.reduceBEq, Nat.reduceMul, Nat.reduceSub, Int.reduceToNat, Int.reduceLE, Int.reduceLT, Int.reduceAdd, Int.reduceSub, Int.reduceMul, Int.reduceNeg, Int.reduceDiv, Int.reduceMod, Int.reduceTDiv, Int.reduceTMod, Int.reducePow, hs, hlt, hw, frz_rowM, c2]))))
        all_goals (refine hk _ _ ⟨?_, .inr ?_⟩ <;> simp only [go_sem, reduceIte, Nat.reduceEqDiff, Nat.reduceAdd, Int.reduceEq, Nat.reduceLeDiff, Nat.reduceLT, Nat.reduceBEq, Nat.reduceMul, Nat.reduceSub, Int.reduceToNat, Int.reduceLE, Int.reduceLT, Int.reduceAdd, Int.reduceSub, Int.reduceMul, Int.reduceNeg, Int.reduceDiv, Int.reduceMod, Int.reduceTDiv, Int.reduceTMod, Int.reducePow, hs, hw])
    · intro _ e h Y R _ ⟨hs, hh⟩ hk
      rcases hh with ⟨h0, _⟩ | rfl
      · omega
      (simp only [il20l1_go, il20l1b, go_sem, reduceIte, Nat.reduceEqDiff, Nat.reduceAdd, Int.reduceEq, Nat.reduceLeDiff, Nat.reduceLT, Nat.reduceBEq, Nat.reduceMul, Nat.reduceSub, Int.reduceToNat, Int.reduceLE, Int.reduceLT, Int.reduceAdd, Int.reduceSub, Int.reduceMul, Int.reduceNeg, Int.reduceDiv, Int.reduceMod, Int.reduceTDiv, Int.reduceTMod, Int.reducePow, hs] <;> (repeat' ((first | with_reducible refine brG_intro (fun hc => ?_) (fun hc => ?_) | with_reducible refine brC_intro (fun hc => ?_) (fun hc => ?_) | ((with_reducible refine c_opsD ?_); have hc := @List.length_nil Nat) | ((with_reducible refine c_opsT ?_); have hc := @List.length_nil Nat) | ((with_reducible refine and_crit ?_ ?_); rfl; have hc := @List.length_nil Nat) | ((with_reducible refine crit_done ?_); rfl) | ((with_reducible refine mkC_go (fun _ => ?_)); have hc := @List.length_nil Nat) | ((with_reducible refine mkL_go (fun _ => ?_)); have hc := @List.length_nil Nat)) <;> (try simp only [Bool.not_eq_true', Bool.not_eq_false', Bool.not_true, Bool.not_false] at hc) <;> (try simp only [hc, go_sem, reduceIte, Nat.reduceEqDiff, Nat.reduceAdd, Int.reduceEq, Nat.reduceLeDiff, Nat.reduceLT, Nat.reduceBEq, Nat.reduceMul, Nat.reduceSub, Int.reduceToNat, Int.reduceLE, Int.reduceLT, Int.reduceAdd, Int.reduceSub, Int.reduceMul, Int.reduceNeg, Int.reduceDiv, Int.reduceMod, Int.reduceTDiv, Int.reduceTMod, Int.reducePow, hs]))))
      all_goals (refine hk _ _ _ ⟨?_, rfl, rfl⟩; simp only [go_sem, reduceIte, Nat.reduceEqDiff, Nat.reduceAdd, Int.reduceEq, Nat.reduceLeDiff, Nat.reduceLT, Nat.reduceBEq, Nat.reduceMul, Nat.reduceSub, Int.reduceToNat, Int.reduceLE, Int.reduceLT, Int.reduceAdd, Int.reduceSub, Int.reduceMul, Int.reduceNeg, Int.reduceDiv, Int.reduceMod, Int.reduceTDiv, Int.reduceTMod, Int.reducePow, hs])
    · refine ⟨?_, .inl ⟨rfl, rfl⟩⟩
      simp only [go_sem, reduceIte, Nat.reduceEqDiff, Nat.reduceAdd, Int.reduceEq, Nat.reduceLeDiff, Nat.reduceLT, Nat.reduceBEq, Nat.reduceMul, Nat.reduceSub, Int.reduceToNat, Int.reduceLE, Int.reduceLT, Int.reduceAdd, Int.reduceSub, Int.reduceMul, Int.reduceNeg, Int.reduceDiv, Int.reduceMod, Int.reduceTDiv, Int.reduceTMod, Int.reducePow, h1]
    · intro x e h ⟨h1, h2, h3⟩
      subst h2 h3
      (simp only [il20c, go_sem, reduceIte, Nat.reduceEqDiff, Nat.reduceAdd, Int.reduceEq, Nat.reduceLeDiff, Nat.reduceLT, Nat.reduceBEq, Nat.reduceMul, Nat.reduceSub, Int.reduceToNat, Int.reduceLE, Int.reduceLT, Int.reduceAdd, Int.reduceSub, Int.reduceMul, Int.reduceNeg, Int.reduceDiv, Int.reduceMod, Int.reduceTDiv, Int.reduceTMod, Int.reducePow, h1] <;> (repeat' ((first | with_reducible refine brG_intro (fun hc => ?_) (fun hc => ?_) | with_reducible refine brC_intro (fun hc => ?_) (fun hc => ?_) | ((with_reducible refine c_opsD ?_); have hc := @List.length_nil Nat) | ((with_reducible refine c_opsT ?_); have hc := @List.length_nil Nat) | ((with_reducible refine and_crit ?_ ?_); rfl; have hc := @List.length_nil Nat) | ((with_reducible refine crit_done ?_); rfl) | ((with_reducible refine mkC_go (fun _ => ?_)); have hc := @List.length_nil Nat) | ((with_reducible refine mkL_go (fun _ => ?_)); have hc := @List.length_nil Nat)) <;> (try simp only [Bool.not_eq_true', Bool.not_eq_false', Bool.not_true, Bool.not_false] at hc) <;> (try simp only [hc, go_sem, reduceIte, Nat.reduceEqDiff, Nat.reduceAdd, Int.reduceEq, Nat.reduceLeDiff, Nat.reduceLT, Nat.reduceBEq, Nat.reduceMul, Nat.reduceSub, Int.reduceToNat, Int.reduceLE, Int.reduceLT, Int.reduceAdd, Int.reduceSub, Int.reduceMul, Int.reduceNeg, Int.reduceDiv, Int.reduceMod, Int.reduceTDiv, Int.reduceTMod, Int.reducePow, h1]))))

end Go.Proofs.Ytboknhdkadcaeaa
