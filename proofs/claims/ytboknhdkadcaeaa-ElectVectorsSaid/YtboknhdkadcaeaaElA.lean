/- Contracts of package elect and of its reference: comparing vectors. -/
import Derived.Test.YtboknhdkadcaeaaIL
import Derived.Test.YtboknhdkadcaeaaAbsCmp
import Derived.Test.YtboknhdkadcaeaaAbsMore
namespace Go.Proofs.Ytboknhdkadcaeaa
open Go Go.Abs
set_option linter.unusedSimpArgs false
set_option linter.unusedVariables false
set_option maxRecDepth 100000
set_option maxHeartbeats 4000000

abbrev I (n : Int) : T := .sc (.int .i64 n)
abbrev B (b : Bool) : T := .sc (.bool b)
abbrev A6 (a0 a1 a2 a3 a4 a5 : Int) : T := .agg [I a0, I a1, I a2, I a3, I a4, I a5]
abbrev A9 (a0 a1 a2 a3 a4 a5 a6 a7 a8 : Int) : T := .agg [I a0, I a1, I a2, I a3, I a4, I a5, I a6, I a7, I a8]

theorem wr1 : IntKind.i64.wrap 1 = 1 := by decide
theorem wr2 : IntKind.i64.wrap 2 = 2 := by decide
theorem wr3 : IntKind.i64.wrap 3 = 3 := by decide
theorem wr4 : IntKind.i64.wrap 4 = 4 := by decide
theorem wr5 : IntKind.i64.wrap 5 = 5 := by decide
theorem wr6 : IntKind.i64.wrap 6 = 6 := by decide
theorem wr7 : IntKind.i64.wrap 7 = 7 := by decide
theorem wr8 : IntKind.i64.wrap 8 = 8 := by decide
theorem wr9 : IntKind.i64.wrap 9 = 9 := by decide

theorem isNaN_ans (a : Int) : ans Try.prog pol 53 [I a] = some (B false) := by
  refine ans_go 1 1 il53_eq (Nat.le_of_ble_eq_true rfl) ?_
  (simp only [il53c, go_sem, reduceIte, Nat.reduceEqDiff, Nat.reduceAdd, Int.reduceEq, Nat.reduceLeDiff, Nat.reduceLT, Nat.reduceBEq, Nat.reduceMul, Nat.reduceSub, Int.reduceToNat, Int.reduceLE, Int.reduceLT, Int.reduceAdd, Int.reduceSub, Int.reduceMul, Int.reduceNeg, Int.reduceDiv, Int.reduceMod, Int.reduceTDiv, Int.reduceTMod, Int.reducePow] <;> (repeat' ((first | with_reducible refine brG_intro (fun hc => ?_) (fun hc => ?_) | with_reducible refine brC_intro (fun hc => ?_) (fun hc => ?_) | ((with_reducible refine c_opsD ?_); have hc := @List.length_nil Nat) | ((with_reducible refine c_opsT ?_); have hc := @List.length_nil Nat) | ((with_reducible refine and_crit ?_ ?_); rfl; have hc := @List.length_nil Nat) | ((with_reducible refine crit_done ?_); rfl; have hc := @List.length_nil Nat) | ((with_reducible refine mkC_go (fun _ => ?_)); have hc := @List.length_nil Nat) | ((with_reducible refine mkL_go (fun _ => ?_)); have hc := @List.length_nil Nat)) <;> (try simp only [Bool.not_eq_true', Bool.not_eq_false', Bool.not_true, Bool.not_false] at hc) <;> (try simp only [hc, go_sem, reduceIte, Nat.reduceEqDiff, Nat.reduceAdd, Int.reduceEq, Nat.reduceLeDiff, Nat.reduceLT, Nat.reduceBEq, Nat.reduceMul, Nat.reduceSub, Int.reduceToNat, Int.reduceLE, Int.reduceLT, Int.reduceAdd, Int.reduceSub, Int.reduceMul, Int.reduceNeg, Int.reduceDiv, Int.reduceMod, Int.reduceTDiv, Int.reduceTMod, Int.reducePow]))))

theorem cmp_ans (a b : Int) : ans Try.prog pol 49 [I a, I b] = some (I (cmp3 a b)) := by
  refine ans_go 1 1 il49_eq (Nat.le_of_ble_eq_true rfl) ?_
  (simp only [il49c, go_sem, reduceIte, Nat.reduceEqDiff, Nat.reduceAdd, Int.reduceEq, Nat.reduceLeDiff, Nat.reduceLT, Nat.reduceBEq, Nat.reduceMul, Nat.reduceSub, Int.reduceToNat, Int.reduceLE, Int.reduceLT, Int.reduceAdd, Int.reduceSub, Int.reduceMul, Int.reduceNeg, Int.reduceDiv, Int.reduceMod, Int.reduceTDiv, Int.reduceTMod, Int.reducePow, isNaN_ans] <;> (repeat' ((first | with_reducible refine brG_intro (fun hc => ?_) (fun hc => ?_) | with_reducible refine brC_intro (fun hc => ?_) (fun hc => ?_) | ((with_reducible refine c_opsD ?_); have hc := @List.length_nil Nat) | ((with_reducible refine c_opsT ?_); have hc := @List.length_nil Nat) | ((with_reducible refine and_crit ?_ ?_); rfl; have hc := @List.length_nil Nat) | ((with_reducible refine crit_done ?_); rfl; have hc := @List.length_nil Nat) | ((with_reducible refine mkC_go (fun _ => ?_)); have hc := @List.length_nil Nat) | ((with_reducible refine mkL_go (fun _ => ?_)); have hc := @List.length_nil Nat)) <;> (try simp only [Bool.not_eq_true', Bool.not_eq_false', Bool.not_true, Bool.not_false] at hc) <;> (try simp only [hc, go_sem, reduceIte, Nat.reduceEqDiff, Nat.reduceAdd, Int.reduceEq, Nat.reduceLeDiff, Nat.reduceLT, Nat.reduceBEq, Nat.reduceMul, Nat.reduceSub, Int.reduceToNat, Int.reduceLE, Int.reduceLT, Int.reduceAdd, Int.reduceSub, Int.reduceMul, Int.reduceNeg, Int.reduceDiv, Int.reduceMod, Int.reduceTDiv, Int.reduceTMod, Int.reducePow, isNaN_ans]))))
  all_goals (try simp only [decide_eq_true_eq, decide_eq_false_iff_not] at *)
  all_goals (simp only [cmp3]; repeat' split) <;> first | rfl | omega | (congr 2; omega)

theorem fields_ans (a0 a1 a2 a3 a4 a5 a6 a7 a8 : Int) : ans Try.prog pol 48 [A9 a0 a1 a2 a3 a4 a5 a6 a7 a8] = some (A9 a0 a1 a2 a3 a4 a5 a6 a7 a8) := by
  refine ans_go 1 1 il48_eq (Nat.le_of_ble_eq_true rfl) ?_
  (simp only [il48c, go_sem, reduceIte, Nat.reduceEqDiff, Nat.reduceAdd, Int.reduceEq, Nat.reduceLeDiff, Nat.reduceLT, Nat.reduceBEq, Nat.reduceMul, Nat.reduceSub, Int.reduceToNat, Int.reduceLE, Int.reduceLT, Int.reduceAdd, Int.reduceSub, Int.reduceMul, Int.reduceNeg, Int.reduceDiv, Int.reduceMod, Int.reduceTDiv, Int.reduceTMod, Int.reducePow] <;> (repeat' ((first | with_reducible refine brG_intro (fun hc => ?_) (fun hc => ?_) | with_reducible refine brC_intro (fun hc => ?_) (fun hc => ?_) | ((with_reducible refine c_opsD ?_); have hc := @List.length_nil Nat) | ((with_reducible refine c_opsT ?_); have hc := @List.length_nil Nat) | ((with_reducible refine and_crit ?_ ?_); rfl; have hc := @List.length_nil Nat) | ((with_reducible refine crit_done ?_); rfl; have hc := @List.length_nil Nat) | ((with_reducible refine mkC_go (fun _ => ?_)); have hc := @List.length_nil Nat) | ((with_reducible refine mkL_go (fun _ => ?_)); have hc := @List.length_nil Nat)) <;> (try simp only [Bool.not_eq_true', Bool.not_eq_false', Bool.not_true, Bool.not_false] at hc) <;> (try simp only [hc, go_sem, reduceIte, Nat.reduceEqDiff, Nat.reduceAdd, Int.reduceEq, Nat.reduceLeDiff, Nat.reduceLT, Nat.reduceBEq, Nat.reduceMul, Nat.reduceSub, Int.reduceToNat, Int.reduceLE, Int.reduceLT, Int.reduceAdd, Int.reduceSub, Int.reduceMul, Int.reduceNeg, Int.reduceDiv, Int.reduceMod, Int.reduceTDiv, Int.reduceTMod, Int.reducePow]))))

theorem compare_ans (a0 a1 a2 a3 a4 a5 a6 a7 a8 b0 b1 b2 b3 b4 b5 b6 b7 b8 : Int) : ans Try.prog pol 36 [A9 a0 a1 a2 a3 a4 a5 a6 a7 a8, A9 b0 b1 b2 b3 b4 b5 b6 b7 b8] =
    some (I (cmpL [a0, a1, a2, a3, a4, a5, a6, a7, a8] [b0, b1, b2, b3, b4, b5, b6, b7, b8])) := by
  refine ans_go 20 1 il36_eq (Nat.le_of_ble_eq_true rfl) ?_
  (simp only [il36c, go_sem, reduceIte, Nat.reduceEqDiff, Nat.reduceAdd, Int.reduceEq, Nat.reduceLeDiff, Nat.reduceLT, Nat.reduceBEq, Nat.reduceMul, Nat.reduceSub, Int.reduceToNat, Int.reduceLE, Int.reduceLT, Int.reduceAdd, Int.reduceSub, Int.reduceMul, Int.reduceNeg, Int.reduceDiv, Int.reduceMod, Int.reduceTDiv, Int.reduceTMod, Int.reducePow, fields_ans, cmp_ans, wr1, wr2, wr3, wr4, wr5, wr6, wr7, wr8, wr9] <;> (repeat' ((first | with_reducible refine brG_intro (fun hc => ?_) (fun hc => ?_) | with_reducible refine brC_intro (fun hc => ?_) (fun hc => ?_) | ((with_reducible refine c_opsD ?_); have hc := @List.length_nil Nat) | ((with_reducible refine c_opsT ?_); have hc := @List.length_nil Nat) | ((with_reducible refine and_crit ?_ ?_); rfl; have hc := @List.length_nil Nat) | ((with_reducible refine crit_done ?_); rfl; have hc := @List.length_nil Nat) | ((with_reducible refine mkC_go (fun _ => ?_)); have hc := @List.length_nil Nat) | ((with_reducible refine mkL_go (fun _ => ?_)); have hc := @List.length_nil Nat) | ((with_reducible refine iter_unroll (body := wc _ _ _ _ _ _ il36l0) ?_ ?_); exact Nat.le_of_ble_eq_true rfl; simp only [il36l0_go, il36l0b]; have hc := @List.length_nil Nat)) <;> (try simp only [Bool.not_eq_true', Bool.not_eq_false', Bool.not_true, Bool.not_false] at hc) <;> (try simp only [hc, go_sem, reduceIte, Nat.reduceEqDiff, Nat.reduceAdd, Int.reduceEq, Nat.reduceLeDiff, Nat.reduceLT, Nat.reduceBEq, Nat.reduceMul, Nat.reduceSub, Int.reduceToNat, Int.reduceLE, Int.reduceLT, Int.reduceAdd, Int.reduceSub, Int.reduceMul, Int.reduceNeg, Int.reduceDiv, Int.reduceMod, Int.reduceTDiv, Int.reduceTMod, Int.reducePow, fields_ans, cmp_ans, wr1, wr2, wr3, wr4, wr5, wr6, wr7, wr8, wr9]))))
  all_goals simp only [decide_eq_true_eq, decide_eq_false_iff_not] at *
  all_goals simp_all [cmpL, cmp3_self, cmp3_eq]

theorem less_ans (a0 a1 a2 a3 a4 a5 b0 b1 b2 b3 b4 b5 : Int) : ans Try.prog pol 37 [A6 a0 a1 a2 a3 a4 a5, A6 b0 b1 b2 b3 b4 b5] =
    some (B (decide (cmpL [a0, a1, a2, a3, a4, a5] [b0, b1, b2, b3, b4, b5] < 0))) := by
  have key : ∀ a b : Int, a ≠ b → decide (cmp3 a b < 0) = decide (a < b) := by
    intro a b h; congr 1; rw [eq_iff_iff]; unfold cmp3; split
    · omega
    · split <;> omega
  refine ans_go 20 1 il37_eq (Nat.le_of_ble_eq_true rfl) ?_
  (simp only [il37c, go_sem, reduceIte, Nat.reduceEqDiff, Nat.reduceAdd, Int.reduceEq, Nat.reduceLeDiff, Nat.reduceLT, Nat.reduceBEq, Nat.reduceMul, Nat.reduceSub, Int.reduceToNat, Int.reduceLE, Int.reduceLT, Int.reduceAdd, Int.reduceSub, Int.reduceMul, Int.reduceNeg, Int.reduceDiv, Int.reduceMod, Int.reduceTDiv, Int.reduceTMod, Int.reducePow, wr1, wr2, wr3, wr4, wr5, wr6] <;> (repeat' ((first | with_reducible refine brG_intro (fun hc => ?_) (fun hc => ?_) | with_reducible refine brC_intro (fun hc => ?_) (fun hc => ?_) | ((with_reducible refine c_opsD ?_); have hc := @List.length_nil Nat) | ((with_reducible refine c_opsT ?_); have hc := @List.length_nil Nat) | ((with_reducible refine and_crit ?_ ?_); rfl; have hc := @List.length_nil Nat) | ((with_reducible refine crit_done ?_); rfl; have hc := @List.length_nil Nat) | ((with_reducible refine mkC_go (fun _ => ?_)); have hc := @List.length_nil Nat) | ((with_reducible refine mkL_go (fun _ => ?_)); have hc := @List.length_nil Nat) | ((with_reducible refine iter_unroll (body := wc _ _ _ _ _ _ il37l0) ?_ ?_); exact Nat.le_of_ble_eq_true rfl; simp only [il37l0_go, il37l0b]; have hc := @List.length_nil Nat)) <;> (try simp only [Bool.not_eq_true', Bool.not_eq_false', Bool.not_true, Bool.not_false] at hc) <;> (try simp only [hc, go_sem, reduceIte, Nat.reduceEqDiff, Nat.reduceAdd, Int.reduceEq, Nat.reduceLeDiff, Nat.reduceLT, Nat.reduceBEq, Nat.reduceMul, Nat.reduceSub, Int.reduceToNat, Int.reduceLE, Int.reduceLT, Int.reduceAdd, Int.reduceSub, Int.reduceMul, Int.reduceNeg, Int.reduceDiv, Int.reduceMod, Int.reduceTDiv, Int.reduceTMod, Int.reducePow, wr1, wr2, wr3, wr4, wr5, wr6]))))
  all_goals simp only [decide_eq_true_eq, decide_eq_false_iff_not] at *
  all_goals simp_all [cmpL, cmp3_self, cmp3_eq]

theorem compare'_ans (a0 a1 a2 a3 a4 a5 a6 a7 a8 b0 b1 b2 b3 b4 b5 b6 b7 b8 : Int) : ans Try.prog pol 19 [A9 a0 a1 a2 a3 a4 a5 a6 a7 a8, A9 b0 b1 b2 b3 b4 b5 b6 b7 b8] =
    some (I (cmpL [a0, a1, a2, a3, a4, a5, a6, a7, a8] [b0, b1, b2, b3, b4, b5, b6, b7, b8])) := by
  have c1 := less_ans a0 a1 a2 a3 a4 a5 b0 b1 b2 b3 b4 b5
  have c2 := less_ans b0 b1 b2 b3 b4 b5 a0 a1 a2 a3 a4 a5
  rw [cmpL_neg] at c2
  have hr := cmpL_range [a0, a1, a2, a3, a4, a5] [b0, b1, b2, b3, b4, b5]
  have hap : ∀ (xs ys us vs : List Int), xs.length = ys.length → cmpL (xs ++ us) (ys ++ vs) = if cmpL xs ys = 0 then cmpL us vs else cmpL xs ys := by
    intro xs
    induction xs with
    | nil => intro ys us vs h; cases ys with
      | nil => simp [cmpL]
      | cons y ys => simp at h
    | cons x xs ih =>
      intro ys us vs h
      cases ys with
      | nil => simp at h
      | cons y ys =>
        simp only [List.cons_append, cmpL, ih ys us vs (by simpa using h)]
        by_cases h0 : cmp3 x y = 0
        · simp [h0]
        · simp [h0]
  have e := hap [a0, a1, a2, a3, a4, a5] [b0, b1, b2, b3, b4, b5] [a6, a7, a8] [b6, b7, b8] rfl
  simp only [List.cons_append, List.nil_append] at e
  rw [e]
  generalize cmpL [a0, a1, a2, a3, a4, a5] [b0, b1, b2, b3, b4, b5] = x at *
  refine ans_go 20 1 il19_eq (Nat.le_of_ble_eq_true rfl) ?_
  rcases hr with rfl | rfl | rfl
  · (simp only [il19c, go_sem, reduceIte, Nat.reduceEqDiff, Nat.reduceAdd, Int.reduceEq, Nat.reduceLeDiff, Nat.reduceLT, Nat.reduceBEq, Nat.reduceMul, Nat.reduceSub, Int.reduceToNat, Int.reduceLE, Int.reduceLT, Int.reduceAdd, Int.reduceSub, Int.reduceMul, Int.reduceNeg, Int.reduceDiv, Int.reduceMod, Int.reduceTDiv, Int.reduceTMod, Int.reducePow, c1, c2] <;> (repeat' ((first | with_reducible refine brG_intro (fun hc => ?_) (fun hc => ?_) | with_reducible refine brC_intro (fun hc => ?_) (fun hc => ?_) | ((with_reducible refine c_opsD ?_); have hc := @List.length_nil Nat) | ((with_reducible refine c_opsT ?_); have hc := @List.length_nil Nat) | ((with_reducible refine and_crit ?_ ?_); rfl; have hc := @List.length_nil Nat) | ((with_reducible refine crit_done ?_); rfl; have hc := @List.length_nil Nat) | ((with_reducible refine mkC_go (fun _ => ?_)); have hc := @List.length_nil Nat) | ((with_reducible refine mkL_go (fun _ => ?_)); have hc := @List.length_nil Nat)) <;> (try simp only [Bool.not_eq_true', Bool.not_eq_false', Bool.not_true, Bool.not_false] at hc) <;> (try simp only [hc, go_sem, reduceIte, Nat.reduceEqDiff, Nat.reduceAdd, Int.reduceEq, Nat.reduceLeDiff, Nat.reduceLT, Nat.reduceBEq, Nat.reduceMul, Nat.reduceSub, Int.reduceToNat, Int.reduceLE, Int.reduceLT, Int.reduceAdd, Int.reduceSub, Int.reduceMul, Int.reduceNeg, Int.reduceDiv, Int.reduceMod, Int.reduceTDiv, Int.reduceTMod, Int.reducePow, c1, c2]))))
  · (simp only [il19c, go_sem, reduceIte, Nat.reduceEqDiff, Nat.reduceAdd, Int.reduceEq, Nat.reduceLeDiff, Nat.reduceLT, Nat.reduceBEq, Nat.reduceMul, Nat.reduceSub, Int.reduceToNat, Int.reduceLE, Int.reduceLT, Int.reduceAdd, Int.reduceSub, Int.reduceMul, Int.reduceNeg, Int.reduceDiv, Int.reduceMod, Int.reduceTDiv, Int.reduceTMod, Int.reducePow, c1, c2, wr1, wr2, wr3] <;> (repeat' ((first | with_reducible refine brG_intro (fun hc => ?_) (fun hc => ?_) | with_reducible refine brC_intro (fun hc => ?_) (fun hc => ?_) | ((with_reducible refine c_opsD ?_); have hc := @List.length_nil Nat) | ((with_reducible refine c_opsT ?_); have hc := @List.length_nil Nat) | ((with_reducible refine and_crit ?_ ?_); rfl; have hc := @List.length_nil Nat) | ((with_reducible refine crit_done ?_); rfl; have hc := @List.length_nil Nat) | ((with_reducible refine mkC_go (fun _ => ?_)); have hc := @List.length_nil Nat) | ((with_reducible refine mkL_go (fun _ => ?_)); have hc := @List.length_nil Nat) | ((with_reducible refine iter_unroll (body := wc _ _ _ _ _ _ il19l0) ?_ ?_); exact Nat.le_of_ble_eq_true rfl; simp only [il19l0_go, il19l0b]; have hc := @List.length_nil Nat)) <;> (try simp only [Bool.not_eq_true', Bool.not_eq_false', Bool.not_true, Bool.not_false] at hc) <;> (try simp only [hc, go_sem, reduceIte, Nat.reduceEqDiff, Nat.reduceAdd, Int.reduceEq, Nat.reduceLeDiff, Nat.reduceLT, Nat.reduceBEq, Nat.reduceMul, Nat.reduceSub, Int.reduceToNat, Int.reduceLE, Int.reduceLT, Int.reduceAdd, Int.reduceSub, Int.reduceMul, Int.reduceNeg, Int.reduceDiv, Int.reduceMod, Int.reduceTDiv, Int.reduceTMod, Int.reducePow, c1, c2, wr1, wr2, wr3]))))
    all_goals simp only [decide_eq_true_eq, decide_eq_false_iff_not] at *
    all_goals (simp only [cmpL, cmp3]; repeat' split) <;> first | rfl | omega
  · (simp only [il19c, go_sem, reduceIte, Nat.reduceEqDiff, Nat.reduceAdd, Int.reduceEq, Nat.reduceLeDiff, Nat.reduceLT, Nat.reduceBEq, Nat.reduceMul, Nat.reduceSub, Int.reduceToNat, Int.reduceLE, Int.reduceLT, Int.reduceAdd, Int.reduceSub, Int.reduceMul, Int.reduceNeg, Int.reduceDiv, Int.reduceMod, Int.reduceTDiv, Int.reduceTMod, Int.reducePow, c1, c2] <;> (repeat' ((first | with_reducible refine brG_intro (fun hc => ?_) (fun hc => ?_) | with_reducible refine brC_intro (fun hc => ?_) (fun hc => ?_) | ((with_reducible refine c_opsD ?_); have hc := @List.length_nil Nat) | ((with_reducible refine c_opsT ?_); have hc := @List.length_nil Nat) | ((with_reducible refine and_crit ?_ ?_); rfl; have hc := @List.length_nil Nat) | ((with_reducible refine crit_done ?_); rfl; have hc := @List.length_nil Nat) | ((with_reducible refine mkC_go (fun _ => ?_)); have hc := @List.length_nil Nat) | ((with_reducible refine mkL_go (fun _ => ?_)); have hc := @List.length_nil Nat)) <;> (try simp only [Bool.not_eq_true', Bool.not_eq_false', Bool.not_true, Bool.not_false] at hc) <;> (try simp only [hc, go_sem, reduceIte, Nat.reduceEqDiff, Nat.reduceAdd, Int.reduceEq, Nat.reduceLeDiff, Nat.reduceLT, Nat.reduceBEq, Nat.reduceMul, Nat.reduceSub, Int.reduceToNat, Int.reduceLE, Int.reduceLT, Int.reduceAdd, Int.reduceSub, Int.reduceMul, Int.reduceNeg, Int.reduceDiv, Int.reduceMod, Int.reduceTDiv, Int.reduceTMod, Int.reducePow, c1, c2]))))

theorem Compare_ans (a0 a1 a2 a3 a4 a5 a6 a7 a8 b0 b1 b2 b3 b4 b5 b6 b7 b8 : Int) : ans Try.prog pol 18 [A9 a0 a1 a2 a3 a4 a5 a6 a7 a8, A9 b0 b1 b2 b3 b4 b5 b6 b7 b8] =
    some (I (cmpL [a0, a1, a2, a3, a4, a5, a6, a7, a8] [b0, b1, b2, b3, b4, b5, b6, b7, b8])) := by
  have c1 := compare_ans a0 a1 a2 a3 a4 a5 a6 a7 a8 b0 b1 b2 b3 b4 b5 b6 b7 b8
  refine ans_go 1 1 il18_eq (Nat.le_of_ble_eq_true rfl) ?_
  (simp only [il18c, go_sem, reduceIte, Nat.reduceEqDiff, Nat.reduceAdd, Int.reduceEq, Nat.reduceLeDiff, Nat.reduceLT, Nat.reduceBEq, Nat.reduceMul, Nat.reduceSub, Int.reduceToNat, Int.reduceLE, Int.reduceLT, Int.reduceAdd, Int.reduceSub, Int.reduceMul, Int.reduceNeg, Int.reduceDiv, Int.reduceMod, Int.reduceTDiv, Int.reduceTMod, Int.reducePow, c1] <;> (repeat' ((first | with_reducible refine brG_intro (fun hc => ?_) (fun hc => ?_) | with_reducible refine brC_intro (fun hc => ?_) (fun hc => ?_) | ((with_reducible refine c_opsD ?_); have hc := @List.length_nil Nat) | ((with_reducible refine c_opsT ?_); have hc := @List.length_nil Nat) | ((with_reducible refine and_crit ?_ ?_); rfl; have hc := @List.length_nil Nat) | ((with_reducible refine crit_done ?_); rfl; have hc := @List.length_nil Nat) | ((with_reducible refine mkC_go (fun _ => ?_)); have hc := @List.length_nil Nat) | ((with_reducible refine mkL_go (fun _ => ?_)); have hc := @List.length_nil Nat)) <;> (try simp only [Bool.not_eq_true', Bool.not_eq_false', Bool.not_true, Bool.not_false] at hc) <;> (try simp only [hc, go_sem, reduceIte, Nat.reduceEqDiff, Nat.reduceAdd, Int.reduceEq, Nat.reduceLeDiff, Nat.reduceLT, Nat.reduceBEq, Nat.reduceMul, Nat.reduceSub, Int.reduceToNat, Int.reduceLE, Int.reduceLT, Int.reduceAdd, Int.reduceSub, Int.reduceMul, Int.reduceNeg, Int.reduceDiv, Int.reduceMod, Int.reduceTDiv, Int.reduceTMod, Int.reducePow, c1]))))

theorem electOrders_ans (a0 a1 a2 a3 a4 a5 a6 a7 a8 b0 b1 b2 b3 b4 b5 b6 b7 b8 c0 c1 c2 c3 c4 c5 c6 c7 c8 : Int) (hw : ans Try.prog pol 11 [] = some (.sc (.bool true))) :
    ans Try.prog pol 8 [A9 a0 a1 a2 a3 a4 a5 a6 a7 a8, A9 b0 b1 b2 b3 b4 b5 b6 b7 b8, A9 c0 c1 c2 c3 c4 c5 c6 c7 c8] = some (B true) := by
  have k1 := Compare_ans a0 a1 a2 a3 a4 a5 a6 a7 a8 a0 b1 b2 b3 b4 b5 b6 b7 b8
  have k2 := Compare_ans a0 b1 b2 b3 b4 b5 b6 b7 b8 a0 b1 b2 b3 b4 b5 c6 c7 c8
  have k3 := Compare_ans a0 a1 a2 a3 a4 a5 a6 a7 a8 a0 b1 b2 b3 b4 b5 c6 c7 c8
  have k4 := Compare_ans a0 b1 b2 b3 b4 b5 b6 b7 b8 a0 a1 a2 a3 a4 a5 a6 a7 a8
  have k5 := Compare_ans a0 b1 b2 b3 b4 b5 c6 c7 c8 a0 b1 b2 b3 b4 b5 b6 b7 b8
  have k6 := Compare_ans a0 a1 a2 a3 a4 a5 a6 a7 a8 a0 a1 a2 a3 a4 a5 a6 a7 a8
  rw [cmpL_self] at k6
  rw [cmpL_neg] at k4 k5
  have z1 := cmpL_zero [a0, a1, a2, a3, a4, a5, a6, a7, a8] [a0, b1, b2, b3, b4, b5, b6, b7, b8] rfl
  have z2 := cmpL_zero [a0, b1, b2, b3, b4, b5, b6, b7, b8] [a0, b1, b2, b3, b4, b5, c6, c7, c8] rfl
  have tr := cmpL_trans [a0, a1, a2, a3, a4, a5, a6, a7, a8] [a0, b1, b2, b3, b4, b5, b6, b7, b8] [a0, b1, b2, b3, b4, b5, c6, c7, c8] rfl rfl
  have r1 := cmpL_range [a0, a1, a2, a3, a4, a5, a6, a7, a8] [a0, b1, b2, b3, b4, b5, b6, b7, b8]
  have r2 := cmpL_range [a0, b1, b2, b3, b4, b5, b6, b7, b8] [a0, b1, b2, b3, b4, b5, c6, c7, c8]
  have r3 := cmpL_range [a0, a1, a2, a3, a4, a5, a6, a7, a8] [a0, b1, b2, b3, b4, b5, c6, c7, c8]
  generalize cmpL [a0, a1, a2, a3, a4, a5, a6, a7, a8] [a0, b1, b2, b3, b4, b5, b6, b7, b8] = x at *
  generalize cmpL [a0, b1, b2, b3, b4, b5, b6, b7, b8] [a0, b1, b2, b3, b4, b5, c6, c7, c8] = y at *
  generalize cmpL [a0, a1, a2, a3, a4, a5, a6, a7, a8] [a0, b1, b2, b3, b4, b5, c6, c7, c8] = z at *
  simp only [List.cons.injEq, true_and, and_true] at z1 z2
  have w0 : IntKind.i64.wrap 0 = 0 := by decide
  have wm : IntKind.i64.wrap (-1) = -1 := by decide
  have p1 : decide (x = 0) = decide (a1 = b1 ∧ a2 = b2 ∧ a3 = b3 ∧ a4 = b4 ∧ a5 = b5 ∧ a6 = b6 ∧ a7 = b7 ∧ a8 = b8) := by congr 1; exact propext z1
  have p2 : decide (y = 0) = decide (b6 = c6 ∧ b7 = c7 ∧ b8 = c8) := by congr 1; exact propext z2
  clear z1 z2
  refine ans_go 1 1 il8_eq (Nat.le_of_ble_eq_true rfl) ?_
  rcases r1 with rfl | rfl | rfl <;> rcases r2 with rfl | rfl | rfl <;> rcases r3 with rfl | rfl | rfl <;> first
    | (exfalso; omega)
    | (simp only [il8c, go_sem, reduceIte, Nat.reduceEqDiff, Nat.reduceAdd, Int.reduceEq, Nat.reduceLeDiff, Nat.reduceLT, Nat.reduceBEq, Nat.reduceMul, Nat.reduceSub, Int.reduceToNat, Int.reduceLE, Int.reduceLT, Int.reduceAdd, Int.reduceSub, Int.reduceMul, Int.reduceNeg, Int.reduceDiv, Int.reduceMod, Int.reduceTDiv, Int.reduceTMod, Int.reducePow, hw, k1, k2, k3, k4, k5, k6, w0, wm, wr1, ← p1, ← p2] <;> (repeat' ((first | with_reducible refine brG_intro (fun hc => ?_) (fun hc => ?_) | with_reducible refine brC_intro (fun hc => ?_) (fun hc => ?_) | ((with_reducible refine c_opsD ?_); have hc := @List.length_nil Nat) | ((with_reducible refine c_opsT ?_); have hc := @List.length_nil Nat) | ((with_reducible refine and_crit ?_ ?_); rfl; have hc := @List.length_nil Nat) | ((with_reducible refine crit_done ?_); rfl; have hc := @List.length_nil Nat) | ((with_reducible refine mkC_go (fun _ => ?_)); have hc := @List.length_nil Nat) | ((with_reducible refine mkL_go (fun _ => ?_)); have hc := @List.length_nil Nat)) <;> (try simp only [Bool.not_eq_true', Bool.not_eq_false', Bool.not_true, Bool.not_false] at hc) <;> (try simp only [hc, go_sem, reduceIte, Nat.reduceEqDiff, Nat.reduceAdd, Int.reduceEq, Nat.reduceLeDiff, Nat.reduceLT, Nat.reduceBEq, Nat.reduceMul, Nat.reduceSub, Int.reduceToNat, Int.reduceLE, Int.reduceLT, Int.reduceAdd, Int.reduceSub, Int.reduceMul, Int.reduceNeg, Int.reduceDiv, Int.reduceMod, Int.reduceTDiv, Int.reduceTMod, Int.reducePow, hw, k1, k2, k3, k4, k5, k6, w0, wm, wr1, ← p1, ← p2]))))

end Go.Proofs.Ytboknhdkadcaeaa
