/- Receive, Forget, Tick; the law SpanHears. -/
import Derived.Test.YtcpaijajddaidaaSpG
namespace Go.Proofs.Ytcpaijajddaidaa
open Go Go.Abs
set_option linter.unusedSimpArgs false
set_option linter.unusedVariables false
set_option maxRecDepth 100000
set_option maxHeartbeats 4000000

theorem okB_len {b : Br} (h : okB b = true) : okL b := by
  rw [okB, Bool.and_eq_true, Bool.and_eq_true] at h
  exact of_decide_eq_true h.1.1
theorem okB_at {b : Br} (h : okB b = true) {i : Nat} (hi : i < b.ports.length) : okAt b i = true := by
  rw [okB, Bool.and_eq_true, List.all_eq_true] at h
  exact h.2 i (by simpa using hi)
theorem okB_heard {b : Br} (h : okB b = true) {x : Hd} (hx : x ∈ b.heard) : okH x := by
  obtain ⟨i, hi⟩ := List.mem_iff_getElem?.1 hx
  have hl := okB_len h
  have hil := (List.getElem?_eq_some_iff.1 hi).1
  simp only [okL] at hl
  have := okB_at h (i := i) (by omega)
  rw [okAt, decide_eq_true_eq] at this
  have h2 := this.2.2.2
  rw [hrd, hi] at h2
  exact h2
theorem okH_g {x : Hd} (h : okH x) : -1000000 ≤ x.g ∧ x.g ≤ 1000000 := by
  cases hx : x.is with
  | true => have := h.1 hx; simp only [helloP] at this; omega
  | false => have := h.2 hx; rw [this]; simp [zH]

theorem chk_bad {c1 c2 c3 : Bool} {b : Br} (h : okB b = false) : ans Try.prog pol 14 [brT c1 c2 c3 b] = some (I 290) := by rw [chk_ans, if_neg (by simp [h])]
theorem chk_ok {c1 c2 c3 : Bool} {b : Br} (h : okB b = true) : ans Try.prog pol 14 [brT c1 c2 c3 b] = some (I 0) := by rw [chk_ans, if_pos h]
theorem helloC_bad {h : Hd} (g : ¬ helloP h) : ans Try.prog pol 36 [heT h] = some (I 280) := by have := hello_ans h; rwa [if_neg g] at this
theorem helloC_ok {h : Hd} (g : helloP h) : ans Try.prog pol 36 [heT h] = some (I 0) := by have := hello_ans h; rwa [if_pos g] at this

section
variable (c1 c2 c3 : Bool) (b : Br)
theorem Receive_bad (i : Int) (h : Hd) (hb : okB b = false) : ans Try.prog pol 26 [brT c1 c2 c3 b, I i, heT h] = some (.tup [zB, I 290]) := by
  have k1 := chk_bad (c1 := c1) (c2 := c2) (c3 := c3) hb
  refine ans_go 1 1 il26_eq (Nat.le_of_ble_eq_true rfl) ?_
  (simp only [il26c, go_sem, reduceIte, Nat.reduceEqDiff, Nat.reduceAdd, Int.reduceEq, Nat.reduceLeDiff, Nat.reduceLT, Nat.reduceBEq, Nat.reduceMul, Nat.reduceSub, Int.reduceToNat, Int.reduceLE, Int.reduceLT, Int.reduceAdd, Int.reduceSub, Int.reduceMul, Int.reduceNeg, Int.reduceDiv, Int.reduceMod, Int.reduceTDiv, Int.reduceTMod, Int.reducePow, k1] <;> (repeat' ((first | with_reducible refine brG_intro (fun hc => ?_) (fun hc => ?_) | with_reducible refine brC_intro (fun hc => ?_) (fun hc => ?_) | ((with_reducible refine c_opsD ?_); have hc := @List.length_nil Nat) | ((with_reducible refine c_opsT ?_); have hc := @List.length_nil Nat) | ((with_reducible refine and_crit ?_ ?_); rfl; have hc := @List.length_nil Nat) | ((with_reducible refine crit_done ?_); rfl) | ((with_reducible refine mkC_go (fun _ => ?_)); have hc := @List.length_nil Nat) | ((with_reducible refine mkL_go (fun _ => ?_)); have hc := @List.length_nil Nat)) <;> (try simp only [Bool.not_eq_true', Bool.not_eq_false', Bool.not_true, Bool.not_false] at hc) <;> (try simp only [hc, go_sem, reduceIte, Nat.reduceEqDiff, Nat.reduceAdd, Int.reduceEq, Nat.reduceLeDiff, Nat.reduceLT, Nat.reduceBEq, Nat.reduceMul, Nat.reduceSub, Int.reduceToNat, Int.reduceLE, Int.reduceLT, Int.reduceAdd, Int.reduceSub, Int.reduceMul, Int.reduceNeg, Int.reduceDiv, Int.reduceMod, Int.reduceTDiv, Int.reduceTMod, Int.reducePow, k1]))))
theorem Forget_bad (i : Int) (hb : okB b = false) : ans Try.prog pol 28 [brT c1 c2 c3 b, I i] = some (.tup [zB, I 290]) := by
  have k1 := chk_bad (c1 := c1) (c2 := c2) (c3 := c3) hb
  refine ans_go 1 1 il28_eq (Nat.le_of_ble_eq_true rfl) ?_
  (simp only [il28c, go_sem, reduceIte, Nat.reduceEqDiff, Nat.reduceAdd, Int.reduceEq, Nat.reduceLeDiff, Nat.reduceLT, Nat.reduceBEq, Nat.reduceMul, Nat.reduceSub, Int.reduceToNat, Int.reduceLE, Int.reduceLT, Int.reduceAdd, Int.reduceSub, Int.reduceMul, Int.reduceNeg, Int.reduceDiv, Int.reduceMod, Int.reduceTDiv, Int.reduceTMod, Int.reducePow, k1] <;> (repeat' ((first | with_reducible refine brG_intro (fun hc => ?_) (fun hc => ?_) | with_reducible refine brC_intro (fun hc => ?_) (fun hc => ?_) | ((with_reducible refine c_opsD ?_); have hc := @List.length_nil Nat) | ((with_reducible refine c_opsT ?_); have hc := @List.length_nil Nat) | ((with_reducible refine and_crit ?_ ?_); rfl; have hc := @List.length_nil Nat) | ((with_reducible refine crit_done ?_); rfl) | ((with_reducible refine mkC_go (fun _ => ?_)); have hc := @List.length_nil Nat) | ((with_reducible refine mkL_go (fun _ => ?_)); have hc := @List.length_nil Nat)) <;> (try simp only [Bool.not_eq_true', Bool.not_eq_false', Bool.not_true, Bool.not_false] at hc) <;> (try simp only [hc, go_sem, reduceIte, Nat.reduceEqDiff, Nat.reduceAdd, Int.reduceEq, Nat.reduceLeDiff, Nat.reduceLT, Nat.reduceBEq, Nat.reduceMul, Nat.reduceSub, Int.reduceToNat, Int.reduceLE, Int.reduceLT, Int.reduceAdd, Int.reduceSub, Int.reduceMul, Int.reduceNeg, Int.reduceDiv, Int.reduceMod, Int.reduceTDiv, Int.reduceTMod, Int.reducePow, k1]))))
theorem Tick_bad (hb : okB b = false) : ans Try.prog pol 29 [brT c1 c2 c3 b] = some (.tup [zB, I 290]) := by
  have k1 := chk_bad (c1 := c1) (c2 := c2) (c3 := c3) hb
  refine ans_go 1 1 il29_eq (Nat.le_of_ble_eq_true rfl) ?_
  (simp only [il29c, go_sem, reduceIte, Nat.reduceEqDiff, Nat.reduceAdd, Int.reduceEq, Nat.reduceLeDiff, Nat.reduceLT, Nat.reduceBEq, Nat.reduceMul, Nat.reduceSub, Int.reduceToNat, Int.reduceLE, Int.reduceLT, Int.reduceAdd, Int.reduceSub, Int.reduceMul, Int.reduceNeg, Int.reduceDiv, Int.reduceMod, Int.reduceTDiv, Int.reduceTMod, Int.reducePow, k1] <;> (repeat' ((first | with_reducible refine brG_intro (fun hc => ?_) (fun hc => ?_) | with_reducible refine brC_intro (fun hc => ?_) (fun hc => ?_) | ((with_reducible refine c_opsD ?_); have hc := @List.length_nil Nat) | ((with_reducible refine c_opsT ?_); have hc := @List.length_nil Nat) | ((with_reducible refine and_crit ?_ ?_); rfl; have hc := @List.length_nil Nat) | ((with_reducible refine crit_done ?_); rfl) | ((with_reducible refine mkC_go (fun _ => ?_)); have hc := @List.length_nil Nat) | ((with_reducible refine mkL_go (fun _ => ?_)); have hc := @List.length_nil Nat)) <;> (try simp only [Bool.not_eq_true', Bool.not_eq_false', Bool.not_true, Bool.not_false] at hc) <;> (try simp only [hc, go_sem, reduceIte, Nat.reduceEqDiff, Nat.reduceAdd, Int.reduceEq, Nat.reduceLeDiff, Nat.reduceLT, Nat.reduceBEq, Nat.reduceMul, Nat.reduceSub, Int.reduceToNat, Int.reduceLE, Int.reduceLT, Int.reduceAdd, Int.reduceSub, Int.reduceMul, Int.reduceNeg, Int.reduceDiv, Int.reduceMod, Int.reduceTDiv, Int.reduceTMod, Int.reducePow, k1]))))
theorem Receive_arg (i : Int) (h : Hd) (hb : okB b = true) (hi : ¬ (0 ≤ i ∧ i < (b.ports.length : Nat))) : ans Try.prog pol 26 [brT c1 c2 c3 b, I i, heT h] = some (.tup [zB, I 2]) := by
  have k1 := chk_ok (c1 := c1) (c2 := c2) (c3 := c3) hb
  refine ans_go 1 1 il26_eq (Nat.le_of_ble_eq_true rfl) ?_
  by_cases q : i < 0
  · have d1 : decide (i < 0) = true := decide_eq_true q
    (simp only [il26c, go_sem, reduceIte, Nat.reduceEqDiff, Nat.reduceAdd, Int.reduceEq, Nat.reduceLeDiff, Nat.reduceLT, Nat.reduceBEq, Nat.reduceMul, Nat.reduceSub, Int.reduceToNat, Int.reduceLE, Int.reduceLT, Int.reduceAdd, Int.reduceSub, Int.reduceMul, Int.reduceNeg, Int.reduceDiv, Int.reduceMod, Int.reduceTDiv, Int.reduceTMod, Int.reducePow, k1, d1] <;> (repeat' ((first | with_reducible refine brG_intro (fun hc => ?_) (fun hc => ?_) | with_reducible refine brC_intro (fun hc => ?_) (fun hc => ?_) | ((with_reducible refine c_opsD ?_); have hc := @List.length_nil Nat) | ((with_reducible refine c_opsT ?_); have hc := @List.length_nil Nat) | ((with_reducible refine and_crit ?_ ?_); rfl; have hc := @List.length_nil Nat) | ((with_reducible refine crit_done ?_); rfl) | ((with_reducible refine mkC_go (fun _ => ?_)); have hc := @List.length_nil Nat) | ((with_reducible refine mkL_go (fun _ => ?_)); have hc := @List.length_nil Nat)) <;> (try simp only [Bool.not_eq_true', Bool.not_eq_false', Bool.not_true, Bool.not_false] at hc) <;> (try simp only [hc, go_sem, reduceIte, Nat.reduceEqDiff, Nat.reduceAdd, Int.reduceEq, Nat.reduceLeDiff, Nat.reduceLT, Nat.reduceBEq, Nat.reduceMul, Nat.reduceSub, Int.reduceToNat, Int.reduceLE, Int.reduceLT, Int.reduceAdd, Int.reduceSub, Int.reduceMul, Int.reduceNeg, Int.reduceDiv, Int.reduceMod, Int.reduceTDiv, Int.reduceTMod, Int.reducePow, k1, d1]))))
  · have d1 : decide (i < 0) = false := decide_eq_false q
    have d2 : decide (((b.ports.length : Nat) : Int) ≤ i) = true := decide_eq_true (by omega)
    (simp only [il26c, go_sem, reduceIte, Nat.reduceEqDiff, Nat.reduceAdd, Int.reduceEq, Nat.reduceLeDiff, Nat.reduceLT, Nat.reduceBEq, Nat.reduceMul, Nat.reduceSub, Int.reduceToNat, Int.reduceLE, Int.reduceLT, Int.reduceAdd, Int.reduceSub, Int.reduceMul, Int.reduceNeg, Int.reduceDiv, Int.reduceMod, Int.reduceTDiv, Int.reduceTMod, Int.reducePow, k1, d1, d2] <;> (repeat' ((first | with_reducible refine brG_intro (fun hc => ?_) (fun hc => ?_) | with_reducible refine brC_intro (fun hc => ?_) (fun hc => ?_) | ((with_reducible refine c_opsD ?_); have hc := @List.length_nil Nat) | ((with_reducible refine c_opsT ?_); have hc := @List.length_nil Nat) | ((with_reducible refine and_crit ?_ ?_); rfl; have hc := @List.length_nil Nat) | ((with_reducible refine crit_done ?_); rfl) | ((with_reducible refine mkC_go (fun _ => ?_)); have hc := @List.length_nil Nat) | ((with_reducible refine mkL_go (fun _ => ?_)); have hc := @List.length_nil Nat)) <;> (try simp only [Bool.not_eq_true', Bool.not_eq_false', Bool.not_true, Bool.not_false] at hc) <;> (try simp only [hc, go_sem, reduceIte, Nat.reduceEqDiff, Nat.reduceAdd, Int.reduceEq, Nat.reduceLeDiff, Nat.reduceLT, Nat.reduceBEq, Nat.reduceMul, Nat.reduceSub, Int.reduceToNat, Int.reduceLE, Int.reduceLT, Int.reduceAdd, Int.reduceSub, Int.reduceMul, Int.reduceNeg, Int.reduceDiv, Int.reduceMod, Int.reduceTDiv, Int.reduceTMod, Int.reducePow, k1, d1, d2]))))
theorem Forget_arg (i : Int) (hb : okB b = true) (hi : ¬ (0 ≤ i ∧ i < (b.ports.length : Nat))) : ans Try.prog pol 28 [brT c1 c2 c3 b, I i] = some (.tup [zB, I 2]) := by
  have k1 := chk_ok (c1 := c1) (c2 := c2) (c3 := c3) hb
  refine ans_go 1 1 il28_eq (Nat.le_of_ble_eq_true rfl) ?_
  by_cases q : i < 0
  · have d1 : decide (i < 0) = true := decide_eq_true q
    (simp only [il28c, go_sem, reduceIte, Nat.reduceEqDiff, Nat.reduceAdd, Int.reduceEq, Nat.reduceLeDiff, Nat.reduceLT, Nat.reduceBEq, Nat.reduceMul, Nat.reduceSub, Int.reduceToNat, Int.reduceLE, Int.reduceLT, Int.reduceAdd, Int.reduceSub, Int.reduceMul, Int.reduceNeg, Int.reduceDiv, Int.reduceMod, Int.reduceTDiv, Int.reduceTMod, Int.reducePow, k1, d1] <;> (repeat' ((first | with_reducible refine brG_intro (fun hc => ?_) (fun hc => ?_) | with_reducible refine brC_intro (fun hc => ?_) (fun hc => ?_) | ((with_reducible refine c_opsD ?_); have hc := @List.length_nil Nat) | ((with_reducible refine c_opsT ?_); have hc := @List.length_nil Nat) | ((with_reducible refine and_crit ?_ ?_); rfl; have hc := @List.length_nil Nat) | ((with_reducible refine crit_done ?_); rfl) | ((with_reducible refine mkC_go (fun _ => ?_)); have hc := @List.length_nil Nat) | ((with_reducible refine mkL_go (fun _ => ?_)); have hc := @List.length_nil Nat)) <;> (try simp only [Bool.not_eq_true', Bool.not_eq_false', Bool.not_true, Bool.not_false] at hc) <;> (try simp only [hc, go_sem, reduceIte, Nat.reduceEqDiff, Nat.reduceAdd, Int.reduceEq, Nat.reduceLeDiff, Nat.reduceLT, Nat.reduceBEq, Nat.reduceMul, Nat.reduceSub, Int.reduceToNat, Int.reduceLE, Int.reduceLT, Int.reduceAdd, Int.reduceSub, Int.reduceMul, Int.reduceNeg, Int.reduceDiv, Int.reduceMod, Int.reduceTDiv, Int.reduceTMod, Int.reducePow, k1, d1]))))
  · have d1 : decide (i < 0) = false := decide_eq_false q
    have d2 : decide (((b.ports.length : Nat) : Int) ≤ i) = true := decide_eq_true (by omega)
    (simp only [il28c, go_sem, reduceIte, Nat.reduceEqDiff, Nat.reduceAdd, Int.reduceEq, Nat.reduceLeDiff, Nat.reduceLT, Nat.reduceBEq, Nat.reduceMul, Nat.reduceSub, Int.reduceToNat, Int.reduceLE, Int.reduceLT, Int.reduceAdd, Int.reduceSub, Int.reduceMul, Int.reduceNeg, Int.reduceDiv, Int.reduceMod, Int.reduceTDiv, Int.reduceTMod, Int.reducePow, k1, d1, d2] <;> (repeat' ((first | with_reducible refine brG_intro (fun hc => ?_) (fun hc => ?_) | with_reducible refine brC_intro (fun hc => ?_) (fun hc => ?_) | ((with_reducible refine c_opsD ?_); have hc := @List.length_nil Nat) | ((with_reducible refine c_opsT ?_); have hc := @List.length_nil Nat) | ((with_reducible refine and_crit ?_ ?_); rfl; have hc := @List.length_nil Nat) | ((with_reducible refine crit_done ?_); rfl) | ((with_reducible refine mkC_go (fun _ => ?_)); have hc := @List.length_nil Nat) | ((with_reducible refine mkL_go (fun _ => ?_)); have hc := @List.length_nil Nat)) <;> (try simp only [Bool.not_eq_true', Bool.not_eq_false', Bool.not_true, Bool.not_false] at hc) <;> (try simp only [hc, go_sem, reduceIte, Nat.reduceEqDiff, Nat.reduceAdd, Int.reduceEq, Nat.reduceLeDiff, Nat.reduceLT, Nat.reduceBEq, Nat.reduceMul, Nat.reduceSub, Int.reduceToNat, Int.reduceLE, Int.reduceLT, Int.reduceAdd, Int.reduceSub, Int.reduceMul, Int.reduceNeg, Int.reduceDiv, Int.reduceMod, Int.reduceTDiv, Int.reduceTMod, Int.reducePow, k1, d1, d2]))))
theorem Receive_rank (i : Nat) (h : Hd) (hb : okB b = true) (hi : i < b.ports.length) (hh : ¬ helloP h) : ans Try.prog pol 26 [brT c1 c2 c3 b, I (i : Nat), heT h] = some (.tup [zB, I 280]) := by
  have k1 := chk_ok (c1 := c1) (c2 := c2) (c3 := c3) hb
  have k2 := helloC_bad hh
  have d1 : decide ((i : Int) < 0) = false := decide_eq_false (by omega)
  have d2 : decide (((b.ports.length : Nat) : Int) ≤ (i : Nat)) = false := decide_eq_false (by omega)
  refine ans_go 1 1 il26_eq (Nat.le_of_ble_eq_true rfl) ?_
  (simp only [il26c, go_sem, reduceIte, Nat.reduceEqDiff, Nat.reduceAdd, Int.reduceEq, Nat.reduceLeDiff, Nat.reduceLT, Nat.reduceBEq, Nat.reduceMul, Nat.reduceSub, Int.reduceToNat, Int.reduceLE, Int.reduceLT, Int.reduceAdd, Int.reduceSub, Int.reduceMul, Int.reduceNeg, Int.reduceDiv, Int.reduceMod, Int.reduceTDiv, Int.reduceTMod, Int.reducePow, k1, d1, d2, k2] <;> (repeat' ((first | with_reducible refine brG_intro (fun hc => ?_) (fun hc => ?_) | with_reducible refine brC_intro (fun hc => ?_) (fun hc => ?_) | ((with_reducible refine c_opsD ?_); have hc := @List.length_nil Nat) | ((with_reducible refine c_opsT ?_); have hc := @List.length_nil Nat) | ((with_reducible refine and_crit ?_ ?_); rfl; have hc := @List.length_nil Nat) | ((with_reducible refine crit_done ?_); rfl) | ((with_reducible refine mkC_go (fun _ => ?_)); have hc := @List.length_nil Nat) | ((with_reducible refine mkL_go (fun _ => ?_)); have hc := @List.length_nil Nat)) <;> (try simp only [Bool.not_eq_true', Bool.not_eq_false', Bool.not_true, Bool.not_false] at hc) <;> (try simp only [hc, go_sem, reduceIte, Nat.reduceEqDiff, Nat.reduceAdd, Int.reduceEq, Nat.reduceLeDiff, Nat.reduceLT, Nat.reduceBEq, Nat.reduceMul, Nat.reduceSub, Int.reduceToNat, Int.reduceLE, Int.reduceLT, Int.reduceAdd, Int.reduceSub, Int.reduceMul, Int.reduceNeg, Int.reduceDiv, Int.reduceMod, Int.reduceTDiv, Int.reduceTMod, Int.reducePow, k1, d1, d2, k2]))))
def putB (b : Br) (hd : List Hd) : Br := ⟨b.p, b.n, b.ports, b.costs, hd⟩
theorem Receive_ok (i : Nat) (h : Hd) (hb : okB b = true) (hi : i < b.ports.length) (hh : helloP h) : ans Try.prog pol 26 [brT c1 c2 c3 b, I (i : Nat), heT h] = some (.tup [brT true true true (putB b (b.heard.set i (rcvH (hrd b i) h))), I 0]) := by
  have k1 := chk_ok (c1 := c1) (c2 := c2) (c3 := c3) hb
  have k2 := helloC_ok hh
  have hl := okB_len hb
  simp only [okL] at hl
  have d1 : decide ((i : Int) < 0) = false := decide_eq_false (by omega)
  have d2 : decide (((b.ports.length : Nat) : Int) ≤ (i : Nat)) = false := decide_eq_false (by omega)
  have k3 := with_ans c1 c2 c3 b (.fn (.func 51) [] [.ip [I (i : Nat)], .ip (heC h)]) (b.heard.set i (rcvH (hrd b i) h)) (by omega) (by omega) (changedR_ans c3 b.heard (by omega) i (hrd b i) h (by simp [hrd, show i < b.heard.length by omega]))
  refine ans_go 1 1 il26_eq (Nat.le_of_ble_eq_true rfl) ?_
  simp only [putB]
  generalize b.heard.set i (rcvH (hrd b i) h) = L at *
  (simp only [il26c, go_sem, reduceIte, Nat.reduceEqDiff, Nat.reduceAdd, Int.reduceEq, Nat.reduceLeDiff, Nat.reduceLT, Nat.reduceBEq, Nat.reduceMul, Nat.reduceSub, Int.reduceToNat, Int.reduceLE, Int.reduceLT, Int.reduceAdd, Int.reduceSub, Int.reduceMul, Int.reduceNeg, Int.reduceDiv, Int.reduceMod, Int.reduceTDiv, Int.reduceTMod, Int.reducePow, k1, d1, d2, k2, k3] <;> (repeat' ((first | with_reducible refine brG_intro (fun hc => ?_) (fun hc => ?_) | with_reducible refine brC_intro (fun hc => ?_) (fun hc => ?_) | ((with_reducible refine c_opsD ?_); have hc := @List.length_nil Nat) | ((with_reducible refine c_opsT ?_); have hc := @List.length_nil Nat) | ((with_reducible refine and_crit ?_ ?_); rfl; have hc := @List.length_nil Nat) | ((with_reducible refine crit_done ?_); rfl) | ((with_reducible refine mkC_go (fun _ => ?_)); have hc := @List.length_nil Nat) | ((with_reducible refine mkL_go (fun _ => ?_)); have hc := @List.length_nil Nat)) <;> (try simp only [Bool.not_eq_true', Bool.not_eq_false', Bool.not_true, Bool.not_false] at hc) <;> (try simp only [hc, go_sem, reduceIte, Nat.reduceEqDiff, Nat.reduceAdd, Int.reduceEq, Nat.reduceLeDiff, Nat.reduceLT, Nat.reduceBEq, Nat.reduceMul, Nat.reduceSub, Int.reduceToNat, Int.reduceLE, Int.reduceLT, Int.reduceAdd, Int.reduceSub, Int.reduceMul, Int.reduceNeg, Int.reduceDiv, Int.reduceMod, Int.reduceTDiv, Int.reduceTMod, Int.reducePow, k1, d1, d2, k2, k3]))))
theorem Forget_ok (i : Nat) (hb : okB b = true) (hi : i < b.ports.length) : ans Try.prog pol 28 [brT c1 c2 c3 b, I (i : Nat)] = some (.tup [brT true true true (putB b (b.heard.set i zH)), I 0]) := by
  have k1 := chk_ok (c1 := c1) (c2 := c2) (c3 := c3) hb
  have hl := okB_len hb
  simp only [okL] at hl
  have d1 : decide ((i : Int) < 0) = false := decide_eq_false (by omega)
  have d2 : decide (((b.ports.length : Nat) : Int) ≤ (i : Nat)) = false := decide_eq_false (by omega)
  have k3 := with_ans c1 c2 c3 b (.fn (.func 52) [] [.ip [I (i : Nat)]]) (b.heard.set i zH) (by omega) (by omega) (changedF_ans c3 b.heard (by omega) i (by omega))
  refine ans_go 1 1 il28_eq (Nat.le_of_ble_eq_true rfl) ?_
  simp only [putB]
  generalize b.heard.set i zH = L at *
  (simp only [il28c, go_sem, reduceIte, Nat.reduceEqDiff, Nat.reduceAdd, Int.reduceEq, Nat.reduceLeDiff, Nat.reduceLT, Nat.reduceBEq, Nat.reduceMul, Nat.reduceSub, Int.reduceToNat, Int.reduceLE, Int.reduceLT, Int.reduceAdd, Int.reduceSub, Int.reduceMul, Int.reduceNeg, Int.reduceDiv, Int.reduceMod, Int.reduceTDiv, Int.reduceTMod, Int.reducePow, k1, d1, d2, k3] <;> (repeat' ((first | with_reducible refine brG_intro (fun hc => ?_) (fun hc => ?_) | with_reducible refine brC_intro (fun hc => ?_) (fun hc => ?_) | ((with_reducible refine c_opsD ?_); have hc := @List.length_nil Nat) | ((with_reducible refine c_opsT ?_); have hc := @List.length_nil Nat) | ((with_reducible refine and_crit ?_ ?_); rfl; have hc := @List.length_nil Nat) | ((with_reducible refine crit_done ?_); rfl) | ((with_reducible refine mkC_go (fun _ => ?_)); have hc := @List.length_nil Nat) | ((with_reducible refine mkL_go (fun _ => ?_)); have hc := @List.length_nil Nat)) <;> (try simp only [Bool.not_eq_true', Bool.not_eq_false', Bool.not_true, Bool.not_false] at hc) <;> (try simp only [hc, go_sem, reduceIte, Nat.reduceEqDiff, Nat.reduceAdd, Int.reduceEq, Nat.reduceLeDiff, Nat.reduceLT, Nat.reduceBEq, Nat.reduceMul, Nat.reduceSub, Int.reduceToNat, Int.reduceLE, Int.reduceLT, Int.reduceAdd, Int.reduceSub, Int.reduceMul, Int.reduceNeg, Int.reduceDiv, Int.reduceMod, Int.reduceTDiv, Int.reduceTMod, Int.reducePow, k1, d1, d2, k3]))))
theorem Tick_ok (hb : okB b = true) : ans Try.prog pol 29 [brT c1 c2 c3 b] = some (.tup [brT true true true (putB b (b.heard.map tickH)), I 0]) := by
  have k1 := chk_ok (c1 := c1) (c2 := c2) (c3 := c3) hb
  have hl := okB_len hb
  simp only [okL] at hl
  have k3 := with_ans c1 c2 c3 b (.fn (.func 53) [] []) (b.heard.map tickH) (by omega) (by omega) (changedT_ans c3 b.heard (by omega) (fun h hh => okH_g (okB_heard hb hh)))
  refine ans_go 1 1 il29_eq (Nat.le_of_ble_eq_true rfl) ?_
  simp only [putB]
  generalize b.heard.map tickH = L at *
  (simp only [il29c, go_sem, reduceIte, Nat.reduceEqDiff, Nat.reduceAdd, Int.reduceEq, Nat.reduceLeDiff, Nat.reduceLT, Nat.reduceBEq, Nat.reduceMul, Nat.reduceSub, Int.reduceToNat, Int.reduceLE, Int.reduceLT, Int.reduceAdd, Int.reduceSub, Int.reduceMul, Int.reduceNeg, Int.reduceDiv, Int.reduceMod, Int.reduceTDiv, Int.reduceTMod, Int.reducePow, k1, k3] <;> (repeat' ((first | with_reducible refine brG_intro (fun hc => ?_) (fun hc => ?_) | with_reducible refine brC_intro (fun hc => ?_) (fun hc => ?_) | ((with_reducible refine c_opsD ?_); have hc := @List.length_nil Nat) | ((with_reducible refine c_opsT ?_); have hc := @List.length_nil Nat) | ((with_reducible refine and_crit ?_ ?_); rfl; have hc := @List.length_nil Nat) | ((with_reducible refine crit_done ?_); rfl) | ((with_reducible refine mkC_go (fun _ => ?_)); have hc := @List.length_nil Nat) | ((with_reducible refine mkL_go (fun _ => ?_)); have hc := @List.length_nil Nat)) <;> (try simp only [Bool.not_eq_true', Bool.not_eq_false', Bool.not_true, Bool.not_false] at hc) <;> (try simp only [hc, go_sem, reduceIte, Nat.reduceEqDiff, Nat.reduceAdd, Int.reduceEq, Nat.reduceLeDiff, Nat.reduceLT, Nat.reduceBEq, Nat.reduceMul, Nat.reduceSub, Int.reduceToNat, Int.reduceLE, Int.reduceLT, Int.reduceAdd, Int.reduceSub, Int.reduceMul, Int.reduceNeg, Int.reduceDiv, Int.reduceMod, Int.reduceTDiv, Int.reduceTMod, Int.reducePow, k1, k3]))))

/-! The reference -/
theorem rWith_ans (i : Nat) (h : Hd) (hi : i < b.heard.length) (hl : b.heard.length ≤ 1000) : ans Try.prog pol 54 [brT c1 c2 c3 b, I (i : Nat), hdT h] = some (brT c1 c2 false (putB b (b.heard.set i h))) := by
  obtain ⟨p, n, ports, costs, heard⟩ := b
  simp only [putB] at *
  obtain ⟨o, ho⟩ : ∃ o, heard[i]? = some o := ⟨heard[i], by simp⟩
  have hg : ((heard.map encH).map AV.t)[i]? = some (.t (hdT o)) := map_get (enc := encH) ho
  have hst := map_set (enc := encH) (l := heard) (i := i) (x := h)
  simp only [encH, hdT] at hst
  have hsl : (heard.set i h).length = heard.length := by simp
  cases heard with
  | nil => simp at hi
  | cons x xs =>
    have hroom : (xs.length + 1) * 64 ≤ roomB := ap_room (by simp at hl; omega) (by omega)
    simp only [List.length_cons] at hi hsl
    generalize (x :: xs).set i h = L at *
    simp only [List.map_cons, encH] at hst hg
    change (AV.t (hdT x) :: (xs.map encH).map AV.t)[i]? = _ at hg
    change (AV.t (hdT x) :: (xs.map encH).map AV.t).set i _ = _ at hst
    refine ans_go 1 1 il54_eq (Nat.le_of_ble_eq_true rfl) ?_
    (simp only [il54c, go_sem, reduceIte, Nat.reduceEqDiff, Nat.reduceAdd, Int.reduceEq, Nat.reduceLeDiff, Nat.reduceLT, Nat.reduceBEq, Nat.reduceMul, Nat.reduceSub, Int.reduceToNat, Int.reduceLE, Int.reduceLT, Int.reduceAdd, Int.reduceSub, Int.reduceMul, Int.reduceNeg, Int.reduceDiv, Int.reduceMod, Int.reduceTDiv, Int.reduceTMod, Int.reducePow, hroom, hg, hst, hsl, hi, encH] <;> (repeat' ((first | with_reducible refine brG_intro (fun hc => ?_) (fun hc => ?_) | with_reducible refine brC_intro (fun hc => ?_) (fun hc => ?_) | ((with_reducible refine c_opsD ?_); have hc := @List.length_nil Nat) | ((with_reducible refine c_opsT ?_); have hc := @List.length_nil Nat) | ((with_reducible refine and_crit ?_ ?_); rfl; have hc := @List.length_nil Nat) | ((with_reducible refine crit_done ?_); rfl) | ((with_reducible refine mkC_go (fun _ => ?_)); have hc := @List.length_nil Nat) | ((with_reducible refine mkL_go (fun _ => ?_)); have hc := @List.length_nil Nat)) <;> (try simp only [Bool.not_eq_true', Bool.not_eq_false', Bool.not_true, Bool.not_false] at hc) <;> (try simp only [hc, go_sem, reduceIte, Nat.reduceEqDiff, Nat.reduceAdd, Int.reduceEq, Nat.reduceLeDiff, Nat.reduceLT, Nat.reduceBEq, Nat.reduceMul, Nat.reduceSub, Int.reduceToNat, Int.reduceLE, Int.reduceLT, Int.reduceAdd, Int.reduceSub, Int.reduceMul, Int.reduceNeg, Int.reduceDiv, Int.reduceMod, Int.reduceTDiv, Int.reduceTMod, Int.reducePow, hroom, hg, hst, hsl, hi, encH]))))
end

end Go.Proofs.Ytcpaijajddaidaa
