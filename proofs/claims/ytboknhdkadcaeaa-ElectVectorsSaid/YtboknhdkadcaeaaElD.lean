/- Own vectors, and the law ElectChecks. -/
import Derived.Test.YtboknhdkadcaeaaElC
namespace Go.Proofs.Ytboknhdkadcaeaa
open Go Go.Abs
set_option linter.unusedSimpArgs false
set_option linter.unusedVariables false
set_option maxRecDepth 100000
set_option maxHeartbeats 4000000

theorem own_ans (ms : List Ms) (lk : List (Int × Int)) (i : Nat) (m : Ms) (hm : ms[i]? = some m) : ans Try.prog pol 35 [spT ms lk, I (i : Nat)] = some (A9 m.p1 m.cl m.ac m.va m.p2 m.id 0 i (-1)) := by
  have hg : (ms.map encMs)[i]? = some (encMs m) := by simp [hm]
  refine ans_go 1 1 il35_eq (Nat.le_of_ble_eq_true rfl) ?_
  (simp only [il35c, go_sem, reduceIte, Nat.reduceEqDiff, Nat.reduceAdd, Int.reduceEq, Nat.reduceLeDiff, Nat.reduceLT, Nat.reduceBEq, Nat.reduceMul, Nat.reduceSub, Int.reduceToNat, Int.reduceLE, Int.reduceLT, Int.reduceAdd, Int.reduceSub, Int.reduceMul, Int.reduceNeg, Int.reduceDiv, Int.reduceMod, Int.reduceTDiv, Int.reduceTMod, Int.reducePow, hg, encMs_cells] <;> (repeat' ((first | with_reducible refine brG_intro (fun hc => ?_) (fun hc => ?_) | with_reducible refine brC_intro (fun hc => ?_) (fun hc => ?_) | ((with_reducible refine c_opsD ?_); have hc := @List.length_nil Nat) | ((with_reducible refine c_opsT ?_); have hc := @List.length_nil Nat) | ((with_reducible refine and_crit ?_ ?_); rfl; have hc := @List.length_nil Nat) | ((with_reducible refine crit_done ?_); rfl) | ((with_reducible refine mkC_go (fun _ => ?_)); have hc := @List.length_nil Nat) | ((with_reducible refine mkL_go (fun _ => ?_)); have hc := @List.length_nil Nat)) <;> (try simp only [Bool.not_eq_true', Bool.not_eq_false', Bool.not_true, Bool.not_false] at hc) <;> (try simp only [hc, go_sem, reduceIte, Nat.reduceEqDiff, Nat.reduceAdd, Int.reduceEq, Nat.reduceLeDiff, Nat.reduceLT, Nat.reduceBEq, Nat.reduceMul, Nat.reduceSub, Int.reduceToNat, Int.reduceLE, Int.reduceLT, Int.reduceAdd, Int.reduceSub, Int.reduceMul, Int.reduceNeg, Int.reduceDiv, Int.reduceMod, Int.reduceTDiv, Int.reduceTMod, Int.reducePow, hg, encMs_cells]))))
theorem own'_ans (ms : List Ms) (lk : List (Int × Int)) (i : Nat) (m : Ms) (hm : ms[i]? = some m) : ans Try.prog pol 17 [spT ms lk, I (i : Nat)] = some (A9 m.p1 m.cl m.ac m.va m.p2 m.id 0 i (-1)) := by
  have hg : (ms.map encMs)[i]? = some (encMs m) := by simp [hm]
  refine ans_go 1 1 il17_eq (Nat.le_of_ble_eq_true rfl) ?_
  (simp only [il17c, go_sem, reduceIte, Nat.reduceEqDiff, Nat.reduceAdd, Int.reduceEq, Nat.reduceLeDiff, Nat.reduceLT, Nat.reduceBEq, Nat.reduceMul, Nat.reduceSub, Int.reduceToNat, Int.reduceLE, Int.reduceLT, Int.reduceAdd, Int.reduceSub, Int.reduceMul, Int.reduceNeg, Int.reduceDiv, Int.reduceMod, Int.reduceTDiv, Int.reduceTMod, Int.reducePow, hg, encMs_cells] <;> (repeat' ((first | with_reducible refine brG_intro (fun hc => ?_) (fun hc => ?_) | with_reducible refine brC_intro (fun hc => ?_) (fun hc => ?_) | ((with_reducible refine c_opsD ?_); have hc := @List.length_nil Nat) | ((with_reducible refine c_opsT ?_); have hc := @List.length_nil Nat) | ((with_reducible refine and_crit ?_ ?_); rfl; have hc := @List.length_nil Nat) | ((with_reducible refine crit_done ?_); rfl) | ((with_reducible refine mkC_go (fun _ => ?_)); have hc := @List.length_nil Nat) | ((with_reducible refine mkL_go (fun _ => ?_)); have hc := @List.length_nil Nat)) <;> (try simp only [Bool.not_eq_true', Bool.not_eq_false', Bool.not_true, Bool.not_false] at hc) <;> (try simp only [hc, go_sem, reduceIte, Nat.reduceEqDiff, Nat.reduceAdd, Int.reduceEq, Nat.reduceLeDiff, Nat.reduceLT, Nat.reduceBEq, Nat.reduceMul, Nat.reduceSub, Int.reduceToNat, Int.reduceLE, Int.reduceLT, Int.reduceAdd, Int.reduceSub, Int.reduceMul, Int.reduceNeg, Int.reduceDiv, Int.reduceMod, Int.reduceTDiv, Int.reduceTMod, Int.reducePow, hg, encMs_cells]))))

abbrev Z9 : T := A9 0 0 0 0 0 0 0 0 0
theorem Own_bad (ms : List Ms) (lk : List (Int × Int)) (i : Int) (h : okS ms lk = false) : ans Try.prog pol 16 [spT ms lk, I i] = some (.tup [Z9, I 210]) := by
  have c1 := check_ans ms lk
  rw [h] at c1
  simp only [Bool.false_eq_true, if_false] at c1
  refine ans_go 1 1 il16_eq (Nat.le_of_ble_eq_true rfl) ?_
  (simp only [il16c, go_sem, reduceIte, Nat.reduceEqDiff, Nat.reduceAdd, Int.reduceEq, Nat.reduceLeDiff, Nat.reduceLT, Nat.reduceBEq, Nat.reduceMul, Nat.reduceSub, Int.reduceToNat, Int.reduceLE, Int.reduceLT, Int.reduceAdd, Int.reduceSub, Int.reduceMul, Int.reduceNeg, Int.reduceDiv, Int.reduceMod, Int.reduceTDiv, Int.reduceTMod, Int.reducePow, c1] <;> (repeat' ((first | with_reducible refine brG_intro (fun hc => ?_) (fun hc => ?_) | with_reducible refine brC_intro (fun hc => ?_) (fun hc => ?_) | ((with_reducible refine c_opsD ?_); have hc := @List.length_nil Nat) | ((with_reducible refine c_opsT ?_); have hc := @List.length_nil Nat) | ((with_reducible refine and_crit ?_ ?_); rfl; have hc := @List.length_nil Nat) | ((with_reducible refine crit_done ?_); rfl) | ((with_reducible refine mkC_go (fun _ => ?_)); have hc := @List.length_nil Nat) | ((with_reducible refine mkL_go (fun _ => ?_)); have hc := @List.length_nil Nat)) <;> (try simp only [Bool.not_eq_true', Bool.not_eq_false', Bool.not_true, Bool.not_false] at hc) <;> (try simp only [hc, go_sem, reduceIte, Nat.reduceEqDiff, Nat.reduceAdd, Int.reduceEq, Nat.reduceLeDiff, Nat.reduceLT, Nat.reduceBEq, Nat.reduceMul, Nat.reduceSub, Int.reduceToNat, Int.reduceLE, Int.reduceLT, Int.reduceAdd, Int.reduceSub, Int.reduceMul, Int.reduceNeg, Int.reduceDiv, Int.reduceMod, Int.reduceTDiv, Int.reduceTMod, Int.reducePow, c1]))))
theorem Own_arg (ms : List Ms) (lk : List (Int × Int)) (i : Int) (h : okS ms lk = true) (hl : ms.length ≤ 12) (hi : ¬ (0 ≤ i ∧ i < (ms.length : Nat))) : ans Try.prog pol 16 [spT ms lk, I i] = some (.tup [Z9, I 2]) := by
  have c1 := check_ans ms lk
  rw [if_pos h] at c1
  have v1 : IntKind.i64.wrap ((ms.length : Nat) - 1) = ((ms.length : Nat) : Int) - 1 := wrap_i64 (by omega) (by omega)
  have c2 := inside_ans i 0 (((ms.length : Nat) : Int) - 1)
  rw [decide_eq_false (by omega)] at c2
  refine ans_go 1 1 il16_eq (Nat.le_of_ble_eq_true rfl) ?_
  (simp only [il16c, go_sem, reduceIte, Nat.reduceEqDiff, Nat.reduceAdd, Int.reduceEq, Nat.reduceLeDiff, Nat.reduceLT, Nat.reduceBEq, Nat.reduceMul, Nat.reduceSub, Int.reduceToNat, Int.reduceLE, Int.reduceLT, Int.reduceAdd, Int.reduceSub, Int.reduceMul, Int.reduceNeg, Int.reduceDiv, Int.reduceMod, Int.reduceTDiv, Int.reduceTMod, Int.reducePow, c1, v1, c2] <;> (repeat' ((first | with_reducible refine brG_intro (fun hc => ?_) (fun hc => ?_) | with_reducible refine brC_intro (fun hc => ?_) (fun hc => ?_) | ((with_reducible refine c_opsD ?_); have hc := @List.length_nil Nat) | ((with_reducible refine c_opsT ?_); have hc := @List.length_nil Nat) | ((with_reducible refine and_crit ?_ ?_); rfl; have hc := @List.length_nil Nat) | ((with_reducible refine crit_done ?_); rfl) | ((with_reducible refine mkC_go (fun _ => ?_)); have hc := @List.length_nil Nat) | ((with_reducible refine mkL_go (fun _ => ?_)); have hc := @List.length_nil Nat)) <;> (try simp only [Bool.not_eq_true', Bool.not_eq_false', Bool.not_true, Bool.not_false] at hc) <;> (try simp only [hc, go_sem, reduceIte, Nat.reduceEqDiff, Nat.reduceAdd, Int.reduceEq, Nat.reduceLeDiff, Nat.reduceLT, Nat.reduceBEq, Nat.reduceMul, Nat.reduceSub, Int.reduceToNat, Int.reduceLE, Int.reduceLT, Int.reduceAdd, Int.reduceSub, Int.reduceMul, Int.reduceNeg, Int.reduceDiv, Int.reduceMod, Int.reduceTDiv, Int.reduceTMod, Int.reducePow, c1, v1, c2]))))
theorem Own_ok (ms : List Ms) (lk : List (Int × Int)) (i : Nat) (m : Ms) (h : okS ms lk = true) (hl : ms.length ≤ 12) (hm : ms[i]? = some m) : ans Try.prog pol 16 [spT ms lk, I (i : Nat)] = some (.tup [A9 m.p1 m.cl m.ac m.va m.p2 m.id 0 i (-1), I 0]) := by
  have c1 := check_ans ms lk
  rw [if_pos h] at c1
  have hi : i < ms.length := (List.getElem?_eq_some_iff.1 hm).1
  have v1 : IntKind.i64.wrap ((ms.length : Nat) - 1) = ((ms.length : Nat) : Int) - 1 := wrap_i64 (by omega) (by omega)
  have c2 := inside_ans (i : Nat) 0 (((ms.length : Nat) : Int) - 1)
  rw [decide_eq_true (by omega)] at c2
  have c3 := own_ans ms lk i m hm
  refine ans_go 1 1 il16_eq (Nat.le_of_ble_eq_true rfl) ?_
  (simp only [il16c, go_sem, reduceIte, Nat.reduceEqDiff, Nat.reduceAdd, Int.reduceEq, Nat.reduceLeDiff, Nat.reduceLT, Nat.reduceBEq, Nat.reduceMul, Nat.reduceSub, Int.reduceToNat, Int.reduceLE, Int.reduceLT, Int.reduceAdd, Int.reduceSub, Int.reduceMul, Int.reduceNeg, Int.reduceDiv, Int.reduceMod, Int.reduceTDiv, Int.reduceTMod, Int.reducePow, c1, v1, c2, c3] <;> (repeat' ((first | with_reducible refine brG_intro (fun hc => ?_) (fun hc => ?_) | with_reducible refine brC_intro (fun hc => ?_) (fun hc => ?_) | ((with_reducible refine c_opsD ?_); have hc := @List.length_nil Nat) | ((with_reducible refine c_opsT ?_); have hc := @List.length_nil Nat) | ((with_reducible refine and_crit ?_ ?_); rfl; have hc := @List.length_nil Nat) | ((with_reducible refine crit_done ?_); rfl) | ((with_reducible refine mkC_go (fun _ => ?_)); have hc := @List.length_nil Nat) | ((with_reducible refine mkL_go (fun _ => ?_)); have hc := @List.length_nil Nat)) <;> (try simp only [Bool.not_eq_true', Bool.not_eq_false', Bool.not_true, Bool.not_false] at hc) <;> (try simp only [hc, go_sem, reduceIte, Nat.reduceEqDiff, Nat.reduceAdd, Int.reduceEq, Nat.reduceLeDiff, Nat.reduceLT, Nat.reduceBEq, Nat.reduceMul, Nat.reduceSub, Int.reduceToNat, Int.reduceLE, Int.reduceLT, Int.reduceAdd, Int.reduceSub, Int.reduceMul, Int.reduceNeg, Int.reduceDiv, Int.reduceMod, Int.reduceTDiv, Int.reduceTMod, Int.reducePow, c1, v1, c2, c3]))))

theorem take_min {α : Type} {enc : α → T} (l : List α) (k : Nat) : (l.map enc).take (min l.length k) = (l.take k).map enc := by
  rw [← List.map_take]; congr 1
  by_cases h : l.length ≤ k
  · rw [Nat.min_eq_left h, List.take_of_length_le (Nat.le_refl _), List.take_of_length_le h]
  · rw [Nat.min_eq_right (by omega)]

theorem few_ans (ms : List Ms) (lk : List (Int × Int)) : ans Try.prog pol 12 [spT ms lk] = some (spT (ms.take 14) (lk.take 26)) := by
  have m1 : (if (14 : Int) < (ms.length : Nat) then 14 else ((ms.length : Nat) : Int)) = ((min ms.length 14 : Nat) : Int) := by split <;> omega
  have m2 : (if (26 : Int) < (lk.length : Nat) then 26 else ((lk.length : Nat) : Int)) = ((min lk.length 26 : Nat) : Int) := by split <;> omega
  have h1 : min ms.length 14 ≤ ms.length := Nat.min_le_left _ _
  have h2 : min lk.length 26 ≤ lk.length := Nat.min_le_left _ _
  have t1 := take_min (enc := encMs) ms 14
  have t2 := take_min (enc := encLk) lk 26
  refine ans_go 1 1 il12_eq (Nat.le_of_ble_eq_true rfl) ?_
  (simp only [il12c, go_sem, reduceIte, Nat.reduceEqDiff, Nat.reduceAdd, Int.reduceEq, Nat.reduceLeDiff, Nat.reduceLT, Nat.reduceBEq, Nat.reduceMul, Nat.reduceSub, Int.reduceToNat, Int.reduceLE, Int.reduceLT, Int.reduceAdd, Int.reduceSub, Int.reduceMul, Int.reduceNeg, Int.reduceDiv, Int.reduceMod, Int.reduceTDiv, Int.reduceTMod, Int.reducePow, m1, m2, h1, h2, t1, t2] <;> (repeat' ((first | with_reducible refine brG_intro (fun hc => ?_) (fun hc => ?_) | with_reducible refine brC_intro (fun hc => ?_) (fun hc => ?_) | ((with_reducible refine c_opsD ?_); have hc := @List.length_nil Nat) | ((with_reducible refine c_opsT ?_); have hc := @List.length_nil Nat) | ((with_reducible refine and_crit ?_ ?_); rfl; have hc := @List.length_nil Nat) | ((with_reducible refine crit_done ?_); rfl) | ((with_reducible refine mkC_go (fun _ => ?_)); have hc := @List.length_nil Nat) | ((with_reducible refine mkL_go (fun _ => ?_)); have hc := @List.length_nil Nat)) <;> (try simp only [Bool.not_eq_true', Bool.not_eq_false', Bool.not_true, Bool.not_false] at hc) <;> (try simp only [hc, go_sem, reduceIte, Nat.reduceEqDiff, Nat.reduceAdd, Int.reduceEq, Nat.reduceLeDiff, Nat.reduceLT, Nat.reduceBEq, Nat.reduceMul, Nat.reduceSub, Int.reduceToNat, Int.reduceLE, Int.reduceLT, Int.reduceAdd, Int.reduceSub, Int.reduceMul, Int.reduceNeg, Int.reduceDiv, Int.reduceMod, Int.reduceTDiv, Int.reduceTMod, Int.reducePow, m1, m2, h1, h2, t1, t2]))))

theorem okS_len {ms : List Ms} {lk : List (Int × Int)} (h : okS ms lk = true) : (1 ≤ ms.length ∧ ms.length ≤ 12) ∧ lk.length ≤ 24 := by
  rw [okS, Bool.and_eq_true] at h
  have := of_decide_eq_true h.1
  omega

end Go.Proofs.Ytboknhdkadcaeaa
