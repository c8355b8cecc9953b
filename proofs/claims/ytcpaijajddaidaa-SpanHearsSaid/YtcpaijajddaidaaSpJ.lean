/- The law SpanHears. -/
import Derived.Test.YtcpaijajddaidaaSpI
namespace Go.Proofs.Ytcpaijajddaidaa
open Go Go.Abs
set_option linter.unusedSimpArgs false
set_option linter.unusedVariables false
set_option maxRecDepth 100000
set_option maxHeartbeats 4000000

theorem spanHears_ans (x : Br) (i : Int) (h : Hd) : ans Try.prog pol 6 [brT false false false x, I i, heT h] = some (B true) := by
  have c1 := few_ans x
  have hl1 : (fewB x).ports.length ≤ 30 := by simp [fewB]; omega
  have hl2 : (fewB x).costs.length ≤ 30 := by simp [fewB]; omega
  have hl3 : (fewB x).heard.length ≤ 30 := by simp [fewB]; omega
  generalize fewB x = b at *
  have k1 := rgt_ans false false false b
  have k6 := failed_ans
  cases hok : okB b with
  | false =>
    rw [hok] at k1
    have r1 := Receive_bad false false false b i h hok
    have r2 := Forget_bad false false false b i hok
    have r3 := Tick_bad false false false b hok
    have f1 := k6 290
    refine ans_go 1 1 il6_eq (Nat.le_of_ble_eq_true rfl) ?_
    (simp only [il6c, go_sem, reduceIte, Nat.reduceEqDiff, Nat.reduceAdd, Int.reduceEq, Nat.reduceLeDiff, Nat.reduceLT, Nat.reduceBEq, Nat.reduceMul, Nat.reduceSub, Int.reduceToNat, Int.reduceLE, Int.reduceLT, Int.reduceAdd, Int.reduceSub, Int.reduceMul, Int.reduceNeg, Int.reduceDiv, Int.reduceMod, Int.reduceTDiv, Int.reduceTMod, Int.reducePow, wakes_ans, c1, k1, r1, r2, r3, f1] <;> (repeat' ((first | with_reducible refine brG_intro (fun hc => ?_) (fun hc => ?_) | with_reducible refine brC_intro (fun hc => ?_) (fun hc => ?_) | ((with_reducible refine c_opsD ?_); have hc := @List.length_nil Nat) | ((with_reducible refine c_opsT ?_); have hc := @List.length_nil Nat) | ((with_reducible refine and_crit ?_ ?_); rfl; have hc := @List.length_nil Nat) | ((with_reducible refine crit_done ?_); rfl) | ((with_reducible refine mkC_go (fun _ => ?_)); have hc := @List.length_nil Nat) | ((with_reducible refine mkL_go (fun _ => ?_)); have hc := @List.length_nil Nat)) <;> (try simp only [Bool.not_eq_true', Bool.not_eq_false', Bool.not_true, Bool.not_false] at hc) <;> (try simp only [hc, go_sem, reduceIte, Nat.reduceEqDiff, Nat.reduceAdd, Int.reduceEq, Nat.reduceLeDiff, Nat.reduceLT, Nat.reduceBEq, Nat.reduceMul, Nat.reduceSub, Int.reduceToNat, Int.reduceLE, Int.reduceLT, Int.reduceAdd, Int.reduceSub, Int.reduceMul, Int.reduceNeg, Int.reduceDiv, Int.reduceMod, Int.reduceTDiv, Int.reduceTMod, Int.reducePow, wakes_ans, c1, k1, r1, r2, r3, f1]))))
  | true =>
    rw [hok] at k1
    have hl := okB_len hok
    simp only [okL] at hl
    have r3 := Tick_ok false false false b hok
    obtain ⟨ct, t1⟩ := rTick_ans false false false b (by omega) (fun y hy => okH_g (okB_heard hok hy))
    have hte : b.heard.map tickR = b.heard.map tickH := List.map_congr_left (fun y hy => tick_eq (okB_heard hok hy))
    rw [hte] at t1
    have s1 := like_ans true true true false false ct (putB b (b.heard.map tickH)) (by simp only [putB]; omega) (by simp only [putB]; omega) (by simp only [putB, List.length_map]; omega)
    generalize b.heard.map tickH = L1 at *
    by_cases q : 0 ≤ i ∧ i < (b.ports.length : Nat)
    rotate_left
    · have r1 := Receive_arg false false false b i h hok q
      have r2 := Forget_arg false false false b i hok q
      have f1 := k6 2
      simp only [putB] at r3 t1 s1
      refine ans_go 1 1 il6_eq (Nat.le_of_ble_eq_true rfl) ?_
      by_cases q2 : i < 0
      · have d1 : decide (i < 0) = true := decide_eq_true q2
        (simp only [il6c, go_sem, reduceIte, Nat.reduceEqDiff, Nat.reduceAdd, Int.reduceEq, Nat.reduceLeDiff, Nat.reduceLT, Nat.reduceBEq, Nat.reduceMul, Nat.reduceSub, Int.reduceToNat, Int.reduceLE, Int.reduceLT, Int.reduceAdd, Int.reduceSub, Int.reduceMul, Int.reduceNeg, Int.reduceDiv, Int.reduceMod, Int.reduceTDiv, Int.reduceTMod, Int.reducePow, wakes_ans, c1, k1, r1, r2, r3, t1, s1, f1, d1] <;> (repeat' ((first | with_reducible refine brG_intro (fun hc => ?_) (fun hc => ?_) | with_reducible refine brC_intro (fun hc => ?_) (fun hc => ?_) | ((with_reducible refine c_opsD ?_); have hc := @List.length_nil Nat) | ((with_reducible refine c_opsT ?_); have hc := @List.length_nil Nat) | ((with_reducible refine and_crit ?_ ?_); rfl; have hc := @List.length_nil Nat) | ((with_reducible refine crit_done ?_); rfl) | ((with_reducible refine mkC_go (fun _ => ?_)); have hc := @List.length_nil Nat) | ((with_reducible refine mkL_go (fun _ => ?_)); have hc := @List.length_nil Nat)) <;> (try simp only [Bool.not_eq_true', Bool.not_eq_false', Bool.not_true, Bool.not_false] at hc) <;> (try simp only [hc, go_sem, reduceIte, Nat.reduceEqDiff, Nat.reduceAdd, Int.reduceEq, Nat.reduceLeDiff, Nat.reduceLT, Nat.reduceBEq, Nat.reduceMul, Nat.reduceSub, Int.reduceToNat, Int.reduceLE, Int.reduceLT, Int.reduceAdd, Int.reduceSub, Int.reduceMul, Int.reduceNeg, Int.reduceDiv, Int.reduceMod, Int.reduceTDiv, Int.reduceTMod, Int.reducePow, wakes_ans, c1, k1, r1, r2, r3, t1, s1, f1, d1]))))
      · have d1 : decide (i < 0) = false := decide_eq_false q2
        have d2 : decide (((b.ports.length : Nat) : Int) ≤ i) = true := decide_eq_true (by omega)
        (simp only [il6c, go_sem, reduceIte, Nat.reduceEqDiff, Nat.reduceAdd, Int.reduceEq, Nat.reduceLeDiff, Nat.reduceLT, Nat.reduceBEq, Nat.reduceMul, Nat.reduceSub, Int.reduceToNat, Int.reduceLE, Int.reduceLT, Int.reduceAdd, Int.reduceSub, Int.reduceMul, Int.reduceNeg, Int.reduceDiv, Int.reduceMod, Int.reduceTDiv, Int.reduceTMod, Int.reducePow, wakes_ans, c1, k1, r1, r2, r3, t1, s1, f1, d1, d2] <;> (repeat' ((first | with_reducible refine brG_intro (fun hc => ?_) (fun hc => ?_) | with_reducible refine brC_intro (fun hc => ?_) (fun hc => ?_) | ((with_reducible refine c_opsD ?_); have hc := @List.length_nil Nat) | ((with_reducible refine c_opsT ?_); have hc := @List.length_nil Nat) | ((with_reducible refine and_crit ?_ ?_); rfl; have hc := @List.length_nil Nat) | ((with_reducible refine crit_done ?_); rfl) | ((with_reducible refine mkC_go (fun _ => ?_)); have hc := @List.length_nil Nat) | ((with_reducible refine mkL_go (fun _ => ?_)); have hc := @List.length_nil Nat)) <;> (try simp only [Bool.not_eq_true', Bool.not_eq_false', Bool.not_true, Bool.not_false] at hc) <;> (try simp only [hc, go_sem, reduceIte, Nat.reduceEqDiff, Nat.reduceAdd, Int.reduceEq, Nat.reduceLeDiff, Nat.reduceLT, Nat.reduceBEq, Nat.reduceMul, Nat.reduceSub, Int.reduceToNat, Int.reduceLE, Int.reduceLT, Int.reduceAdd, Int.reduceSub, Int.reduceMul, Int.reduceNeg, Int.reduceDiv, Int.reduceMod, Int.reduceTDiv, Int.reduceTMod, Int.reducePow, wakes_ans, c1, k1, r1, r2, r3, t1, s1, f1, d1, d2]))))
    obtain ⟨j, rfl⟩ := Int.eq_ofNat_of_zero_le q.1
    have hj : j < b.ports.length := by omega
    have d1 : decide (((j : Nat) : Int) < 0) = false := decide_eq_false (by omega)
    have d2 : decide (((b.ports.length : Nat) : Int) ≤ (j : Nat)) = false := decide_eq_false (by omega)
    have r2 := Forget_ok false false false b j hok hj
    have t2 := rForget_ans false false false b j (by omega) (by omega)
    have s2 := like_ans true true true false false false (putB b (b.heard.set j zH)) (by simp only [putB]; omega) (by simp only [putB]; omega) (by simp only [putB, List.length_set]; omega)
    have k2 := helloR_ans h
    by_cases g : helloP h
    rotate_left
    · rw [decide_eq_false g] at k2
      have r1 := Receive_rank false false false b j h hok hj g
      have f1 := k6 280
      generalize b.heard.set j zH = L2 at *
      simp only [putB] at r2 r3 t1 t2 s1 s2
      refine ans_go 1 1 il6_eq (Nat.le_of_ble_eq_true rfl) ?_
      (simp only [il6c, go_sem, reduceIte, Nat.reduceEqDiff, Nat.reduceAdd, Int.reduceEq, Nat.reduceLeDiff, Nat.reduceLT, Nat.reduceBEq, Nat.reduceMul, Nat.reduceSub, Int.reduceToNat, Int.reduceLE, Int.reduceLT, Int.reduceAdd, Int.reduceSub, Int.reduceMul, Int.reduceNeg, Int.reduceDiv, Int.reduceMod, Int.reduceTDiv, Int.reduceTMod, Int.reducePow, wakes_ans, c1, k1, r1, r2, r3, t1, s1, t2, s2, f1, d1, d2, k2] <;> (repeat' ((first | with_reducible refine brG_intro (fun hc => ?_) (fun hc => ?_) | with_reducible refine brC_intro (fun hc => ?_) (fun hc => ?_) | ((with_reducible refine c_opsD ?_); have hc := @List.length_nil Nat) | ((with_reducible refine c_opsT ?_); have hc := @List.length_nil Nat) | ((with_reducible refine and_crit ?_ ?_); rfl; have hc := @List.length_nil Nat) | ((with_reducible refine crit_done ?_); rfl) | ((with_reducible refine mkC_go (fun _ => ?_)); have hc := @List.length_nil Nat) | ((with_reducible refine mkL_go (fun _ => ?_)); have hc := @List.length_nil Nat)) <;> (try simp only [Bool.not_eq_true', Bool.not_eq_false', Bool.not_true, Bool.not_false] at hc) <;> (try simp only [hc, go_sem, reduceIte, Nat.reduceEqDiff, Nat.reduceAdd, Int.reduceEq, Nat.reduceLeDiff, Nat.reduceLT, Nat.reduceBEq, Nat.reduceMul, Nat.reduceSub, Int.reduceToNat, Int.reduceLE, Int.reduceLT, Int.reduceAdd, Int.reduceSub, Int.reduceMul, Int.reduceNeg, Int.reduceDiv, Int.reduceMod, Int.reduceTDiv, Int.reduceTMod, Int.reducePow, wakes_ans, c1, k1, r1, r2, r3, t1, s1, t2, s2, f1, d1, d2, k2]))))
    · rw [decide_eq_true g] at k2
      have r1 := Receive_ok false false false b j h hok hj g
      obtain ⟨cr, t3⟩ := rReceive_ans false false false b j h (by omega) (by omega)
      have s3 := like_ans true true true false false cr (putB b (b.heard.set j (rcvH (hrd b j) h))) (by simp only [putB]; omega) (by simp only [putB]; omega) (by simp only [putB, List.length_set]; omega)
      generalize b.heard.set j (rcvH (hrd b j) h) = L3 at *
      generalize b.heard.set j zH = L2 at *
      simp only [putB] at r1 r2 r3 t1 t2 t3 s1 s2 s3
      refine ans_go 1 1 il6_eq (Nat.le_of_ble_eq_true rfl) ?_
      (simp only [il6c, go_sem, reduceIte, Nat.reduceEqDiff, Nat.reduceAdd, Int.reduceEq, Nat.reduceLeDiff, Nat.reduceLT, Nat.reduceBEq, Nat.reduceMul, Nat.reduceSub, Int.reduceToNat, Int.reduceLE, Int.reduceLT, Int.reduceAdd, Int.reduceSub, Int.reduceMul, Int.reduceNeg, Int.reduceDiv, Int.reduceMod, Int.reduceTDiv, Int.reduceTMod, Int.reducePow, wakes_ans, c1, k1, r1, r2, r3, t1, s1, t2, s2, t3, s3, d1, d2, k2] <;> (repeat' ((first | with_reducible refine brG_intro (fun hc => ?_) (fun hc => ?_) | with_reducible refine brC_intro (fun hc => ?_) (fun hc => ?_) | ((with_reducible refine c_opsD ?_); have hc := @List.length_nil Nat) | ((with_reducible refine c_opsT ?_); have hc := @List.length_nil Nat) | ((with_reducible refine and_crit ?_ ?_); rfl; have hc := @List.length_nil Nat) | ((with_reducible refine crit_done ?_); rfl) | ((with_reducible refine mkC_go (fun _ => ?_)); have hc := @List.length_nil Nat) | ((with_reducible refine mkL_go (fun _ => ?_)); have hc := @List.length_nil Nat)) <;> (try simp only [Bool.not_eq_true', Bool.not_eq_false', Bool.not_true, Bool.not_false] at hc) <;> (try simp only [hc, go_sem, reduceIte, Nat.reduceEqDiff, Nat.reduceAdd, Int.reduceEq, Nat.reduceLeDiff, Nat.reduceLT, Nat.reduceBEq, Nat.reduceMul, Nat.reduceSub, Int.reduceToNat, Int.reduceLE, Int.reduceLT, Int.reduceAdd, Int.reduceSub, Int.reduceMul, Int.reduceNeg, Int.reduceDiv, Int.reduceMod, Int.reduceTDiv, Int.reduceTMod, Int.reducePow, wakes_ans, c1, k1, r1, r2, r3, t1, s1, t2, s2, t3, s3, d1, d2, k2]))))

end Go.Proofs.Ytcpaijajddaidaa
