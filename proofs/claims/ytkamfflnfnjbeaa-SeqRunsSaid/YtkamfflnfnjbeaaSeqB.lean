/- Contracts of the reference of package seq. -/
import Derived.Test.YtkamfflnfnjbeaaSeqA
set_option linter.unusedVariables false
namespace Go.Proofs.Ytkamfflnfnjbeaa
open Go Go.Abs
set_option linter.unusedSimpArgs false

/-- The loop of the reference's Delta, from d on. -/
theorem delta'_loop (a b : Int) (ha : 0 ≤ a ∧ a < 65536) (hb : 0 ≤ b ∧ b < 65536) (I : Inl) (n : Nat) {R : Xit → FEnv → Heap → Prop} (hR : ∀ e, e 4 = .t (.sc (.int .i64 ((b - a + 32768) % 65536 - 32768))) → R .ret e []) :
    ∀ (k m : Nat) (d : Int) (e : FEnv), ((b - a + 32768) % 65536 - 32768) = d + k → -32768 ≤ d → k < m → e 0 = .t (.sc (.int .i64 a)) → e 1 = .t (.sc (.int .i64 b)) → e 5 = .t (.sc (.int .i64 d)) →
      wpIter 0 (some [0, 1, 5]) (wc Try.prog pol (ans Try.prog pol) I n 18 il18l0) R m e [] := by
  intro k
  induction k with
  | zero =>
    intro m d e h1 h2 h3 e0 e1 e5
    refine iter_go (by omega) fun Y hY => ?_
    simp only [il18l0_go, il18l0b, go_sem, reduceIte, Nat.reduceEqDiff, Nat.reduceAdd, Int.reduceEq, Nat.reduceLeDiff, Nat.reduceLT, Nat.reduceBEq, Nat.reduceMul, Nat.reduceSub, Int.reduceToNat, Int.reduceLE, Int.reduceLT, Int.reduceAdd, Int.reduceSub, Int.reduceMul, Int.reduceNeg, Int.reduceDiv, Int.reduceMod, Int.reduceTDiv, Int.reduceTMod, Int.reducePow, e0, e1, e5, after'_ans _ _ ha.1 ha.2]
    (repeat' ((first | with_reducible refine brG_intro (fun hc => ?_) (fun hc => ?_) | with_reducible refine brC_intro (fun hc => ?_) (fun hc => ?_) | ((with_reducible refine c_opsD ?_); have hc := @List.length_nil Nat) | ((with_reducible refine c_opsT ?_); have hc := @List.length_nil Nat) | ((with_reducible refine and_crit ?_ ?_); rfl; have hc := @List.length_nil Nat) | ((with_reducible refine crit_done ?_); rfl) | ((with_reducible refine mkC_go (fun _ => ?_)); have hc := @List.length_nil Nat) | ((with_reducible refine mkL_go (fun _ => ?_)); have hc := @List.length_nil Nat)) <;> (try simp only [Bool.not_eq_true', Bool.not_eq_false', Bool.not_true, Bool.not_false] at hc) <;> (try simp only [hc, go_sem, reduceIte, Nat.reduceEqDiff, Nat.reduceAdd, Int.reduceEq, Nat.reduceLeDiff, Nat.reduceLT, Nat.reduceBEq, Nat.reduceMul, Nat.reduceSub, Int.reduceToNat, Int.reduceLE, Int.reduceLT, Int.reduceAdd, Int.reduceSub, Int.reduceMul, Int.reduceNeg, Int.reduceDiv, Int.reduceMod, Int.reduceTDiv, Int.reduceTMod, Int.reducePow, e0, e1, e5, after'_ans _ _ ha.1 ha.2])))
    · exact hR _ (by simp only [go_sem, reduceIte, Nat.reduceEqDiff, Nat.reduceAdd, Int.reduceEq, Nat.reduceLeDiff, Nat.reduceLT, Nat.reduceBEq, Nat.reduceMul, Nat.reduceSub, Int.reduceToNat, Int.reduceLE, Int.reduceLT, Int.reduceAdd, Int.reduceSub, Int.reduceMul, Int.reduceNeg, Int.reduceDiv, Int.reduceMod, Int.reduceTDiv, Int.reduceTMod, Int.reducePow]; congr 3; omega)
    all_goals (simp only [decide_eq_true_eq, decide_eq_false_iff_not] at *; omega)
  | succ k ih =>
    intro m d e h1 h2 h3 e0 e1 e5
    refine iter_go (by omega) fun Y hY => ?_
    simp only [il18l0_go, il18l0b, go_sem, reduceIte, Nat.reduceEqDiff, Nat.reduceAdd, Int.reduceEq, Nat.reduceLeDiff, Nat.reduceLT, Nat.reduceBEq, Nat.reduceMul, Nat.reduceSub, Int.reduceToNat, Int.reduceLE, Int.reduceLT, Int.reduceAdd, Int.reduceSub, Int.reduceMul, Int.reduceNeg, Int.reduceDiv, Int.reduceMod, Int.reduceTDiv, Int.reduceTMod, Int.reducePow, e0, e1, e5, after'_ans _ _ ha.1 ha.2]
    (repeat' ((first | with_reducible refine brG_intro (fun hc => ?_) (fun hc => ?_) | with_reducible refine brC_intro (fun hc => ?_) (fun hc => ?_) | ((with_reducible refine c_opsD ?_); have hc := @List.length_nil Nat) | ((with_reducible refine c_opsT ?_); have hc := @List.length_nil Nat) | ((with_reducible refine and_crit ?_ ?_); rfl; have hc := @List.length_nil Nat) | ((with_reducible refine crit_done ?_); rfl) | ((with_reducible refine mkC_go (fun _ => ?_)); have hc := @List.length_nil Nat) | ((with_reducible refine mkL_go (fun _ => ?_)); have hc := @List.length_nil Nat)) <;> (try simp only [Bool.not_eq_true', Bool.not_eq_false', Bool.not_true, Bool.not_false] at hc) <;> (try simp only [hc, go_sem, reduceIte, Nat.reduceEqDiff, Nat.reduceAdd, Int.reduceEq, Nat.reduceLeDiff, Nat.reduceLT, Nat.reduceBEq, Nat.reduceMul, Nat.reduceSub, Int.reduceToNat, Int.reduceLE, Int.reduceLT, Int.reduceAdd, Int.reduceSub, Int.reduceMul, Int.reduceNeg, Int.reduceDiv, Int.reduceMod, Int.reduceTDiv, Int.reduceTMod, Int.reducePow, e0, e1, e5, after'_ans _ _ ha.1 ha.2])))
    · simp only [decide_eq_true_eq, decide_eq_false_iff_not] at *; omega
    · rw [hY]
      exact ih _ (d + 1) _ (by omega) (by omega) (by omega) (by simp only [go_sem, reduceIte, Nat.reduceEqDiff, Nat.reduceAdd, Int.reduceEq, Nat.reduceLeDiff, Nat.reduceLT, Nat.reduceBEq, Nat.reduceMul, Nat.reduceSub, Int.reduceToNat, Int.reduceLE, Int.reduceLT, Int.reduceAdd, Int.reduceSub, Int.reduceMul, Int.reduceNeg, Int.reduceDiv, Int.reduceMod, Int.reduceTDiv, Int.reduceTMod, Int.reducePow, e0]) (by simp only [go_sem, reduceIte, Nat.reduceEqDiff, Nat.reduceAdd, Int.reduceEq, Nat.reduceLeDiff, Nat.reduceLT, Nat.reduceBEq, Nat.reduceMul, Nat.reduceSub, Int.reduceToNat, Int.reduceLE, Int.reduceLT, Int.reduceAdd, Int.reduceSub, Int.reduceMul, Int.reduceNeg, Int.reduceDiv, Int.reduceMod, Int.reduceTDiv, Int.reduceTMod, Int.reducePow, e1]) (by simp only [go_sem, reduceIte, Nat.reduceEqDiff, Nat.reduceAdd, Int.reduceEq, Nat.reduceLeDiff, Nat.reduceLT, Nat.reduceBEq, Nat.reduceMul, Nat.reduceSub, Int.reduceToNat, Int.reduceLE, Int.reduceLT, Int.reduceAdd, Int.reduceSub, Int.reduceMul, Int.reduceNeg, Int.reduceDiv, Int.reduceMod, Int.reduceTDiv, Int.reduceTMod, Int.reducePow]; rw [wrap_i64 (by omega) (by omega)])
    · simp only [decide_eq_true_eq, decide_eq_false_iff_not] at *; omega

theorem delta'_ans (a b : Int) (ha : 0 ≤ a ∧ a < 65536) (hb : 0 ≤ b ∧ b < 65536) : ans Try.prog pol 18 [.sc (.int .i64 a), .sc (.int .i64 b)] = some (.sc (.int .i64 ((b - a + 32768) % 65536 - 32768))) := by
  obtain ⟨n, hn⟩ : ∃ n : Nat, 70000 < n := ⟨70001, by omega⟩
  refine ans_go n 1 il18_eq (Nat.le_of_ble_eq_true rfl) ?_
  simp only [il18c, go_sem, reduceIte, Nat.reduceEqDiff, Nat.reduceAdd, Int.reduceEq, Nat.reduceLeDiff, Nat.reduceLT, Nat.reduceBEq, Nat.reduceMul, Nat.reduceSub, Int.reduceToNat, Int.reduceLE, Int.reduceLT, Int.reduceAdd, Int.reduceSub, Int.reduceMul, Int.reduceNeg, Int.reduceDiv, Int.reduceMod, Int.reduceTDiv, Int.reduceTMod, Int.reducePow]
  refine delta'_loop a b ha hb _ n ?_ ((b - a + 32768) % 65536).toNat n (-32768) _ (by omega) (by omega) (by omega) (by simp only [go_sem, reduceIte, Nat.reduceEqDiff, Nat.reduceAdd, Int.reduceEq, Nat.reduceLeDiff, Nat.reduceLT, Nat.reduceBEq, Nat.reduceMul, Nat.reduceSub, Int.reduceToNat, Int.reduceLE, Int.reduceLT, Int.reduceAdd, Int.reduceSub, Int.reduceMul, Int.reduceNeg, Int.reduceDiv, Int.reduceMod, Int.reduceTDiv, Int.reduceTMod, Int.reducePow]) (by simp only [go_sem, reduceIte, Nat.reduceEqDiff, Nat.reduceAdd, Int.reduceEq, Nat.reduceLeDiff, Nat.reduceLT, Nat.reduceBEq, Nat.reduceMul, Nat.reduceSub, Int.reduceToNat, Int.reduceLE, Int.reduceLT, Int.reduceAdd, Int.reduceSub, Int.reduceMul, Int.reduceNeg, Int.reduceDiv, Int.reduceMod, Int.reduceTDiv, Int.reduceTMod, Int.reducePow]) (by simp only [go_sem, reduceIte, Nat.reduceEqDiff, Nat.reduceAdd, Int.reduceEq, Nat.reduceLeDiff, Nat.reduceLT, Nat.reduceBEq, Nat.reduceMul, Nat.reduceSub, Int.reduceToNat, Int.reduceLE, Int.reduceLT, Int.reduceAdd, Int.reduceSub, Int.reduceMul, Int.reduceNeg, Int.reduceDiv, Int.reduceMod, Int.reduceTDiv, Int.reduceTMod, Int.reducePow])
  intro e he
  simp only [go_sem, reduceIte, Nat.reduceEqDiff, Nat.reduceAdd, Int.reduceEq, Nat.reduceLeDiff, Nat.reduceLT, Nat.reduceBEq, Nat.reduceMul, Nat.reduceSub, Int.reduceToNat, Int.reduceLE, Int.reduceLT, Int.reduceAdd, Int.reduceSub, Int.reduceMul, Int.reduceNeg, Int.reduceDiv, Int.reduceMod, Int.reduceTDiv, Int.reduceTMod, Int.reducePow, he]

theorem delta_ok (a b : Int) (ha : 0 ≤ a ∧ a < 65536) (hb : 0 ≤ b ∧ b < 65536) : ans Try.prog pol 16 [.sc (.int .i64 a), .sc (.int .i64 b)] = some (.tup [.sc (.int .i64 ((b - a + 32768) % 65536 - 32768)), .sc (.int .i64 0)]) := by
  rw [delta_ans a b (by omega) (by omega) (by omega) (by omega), if_pos ⟨ha, hb⟩]

theorem delta_bad (a b : Int) (h1 : -9223372036854775808 ≤ a) (h2 : a < 9223372036854775808) (h3 : -9223372036854775808 ≤ b) (h4 : b < 9223372036854775808) (hn : ¬ ((0 ≤ a ∧ a < 65536) ∧ 0 ≤ b ∧ b < 65536)) :
    ans Try.prog pol 16 [.sc (.int .i64 a), .sc (.int .i64 b)] = some (.tup [.sc (.int .i64 0), .sc (.int .i64 2)]) := by
  rw [delta_ans a b h1 h2 h3 h4, if_neg hn]

theorem after_ok (a d : Int) (ha : 0 ≤ a ∧ a < 65536) : ans Try.prog pol 17 [.sc (.int .i64 a), .sc (.int .i64 d)] = some (.tup [.sc (.int .i64 ((a + d) % 65536)), .sc (.int .i64 0)]) := by
  rw [after_ans a d, if_pos ha]

theorem after_bad (a d : Int) (ha : ¬ (0 ≤ a ∧ a < 65536)) : ans Try.prog pol 17 [.sc (.int .i64 a), .sc (.int .i64 d)] = some (.tup [.sc (.int .i64 0), .sc (.int .i64 2)]) := by
  rw [after_ans a d, if_neg ha]

end Go.Proofs.Ytkamfflnfnjbeaa
