/- Lists of counters: what package seq and its reference make of them. -/
import Derived.Test.YtkamfflnfnjbeaaSeqB
set_option linter.unusedVariables false
namespace Go.Proofs.Ytkamfflnfnjbeaa
open Go Go.Abs
set_option linter.unusedSimpArgs false
set_option maxRecDepth 100000

abbrev Cnt := Int × Int
def encC (c : Cnt) : T := .agg [.sc (.int .i64 c.1), .sc (.int .i64 c.2)]
theorem encC_cells (c : Cnt) : (encC c).cells = [.sc (.int .i64 c.1), .sc (.int .i64 c.2)] := rfl
def okB (before : Int) (c : Cnt) : Bool := decide (1 ≤ c.1 ∧ c.1 ≤ 4095) && (!decide (c.1 ≤ before) && decide (0 ≤ c.2 ∧ c.2 < 65536))
def chk : Int → List Cnt → Bool
  | _, [] => true
  | b, c :: r => okB b c && chk c.1 r

theorem get_mid (pre rest : List Cnt) (c : Cnt) : ((pre ++ c :: rest).map encC)[pre.length]? = some (encC c) := by simp

theorem check_loop (l : List Cnt) (hl : l.length ≤ 12) (I : Inl) (n : Nat) {R : Xit → FEnv → Heap → Prop} (b0 : Bool) (h1 : b0 = false → ∀ e h, e 2 = .t (.sc (.int .i64 490)) → R .ret e h) (h2 : b0 = true → ∀ e, R (.exit 0) e []) :
    ∀ (rest pre : List Cnt) (b : Int) (m : Nat) (e : FEnv), l = pre ++ rest → b0 = chk b rest → rest.length < m → e 9 = .t (.sl false 2 (l.map encC)) → e 10 = .t (.sc (.int .i64 l.length)) → e 11 = .t (.sc (.int .i64 (pre.length : Nat))) → e 3 = .t (.sc (.int .i64 b)) →
      wpIter 0 (some [3, 9, 10, 11]) (wc Try.prog pol (ans Try.prog pol) I n 25 il25l0) R m e [] := by
  intro rest
  induction rest with
  | nil =>
    intro pre b m e hpre hb hm e9 e10 e11 e3
    have hlt : decide (((pre.length : Nat) : Int) < l.length) = false := by simp [hpre]
    refine iter_go (by omega) fun Y hY => ?_
    simp only [il25l0_go, il25l0b, go_sem, reduceIte, Nat.reduceEqDiff, Nat.reduceAdd, Int.reduceEq, Nat.reduceLeDiff, Nat.reduceLT, Nat.reduceBEq, Nat.reduceMul, Nat.reduceSub, Int.reduceToNat, Int.reduceLE, Int.reduceLT, Int.reduceAdd, Int.reduceSub, Int.reduceMul, Int.reduceNeg, Int.reduceDiv, Int.reduceMod, Int.reduceTDiv, Int.reduceTMod, Int.reducePow, e9, e10, e11, e3, hlt]
    exact h2 (by rw [hb]; rfl) _
  | cons c rest ih =>
    intro pre b m e hpre hb hm e9 e10 e11 e3
    have hlt : decide (((pre.length : Nat) : Int) < l.length) = true := by simp [hpre]; omega
    have hget : (l.map encC)[pre.length]? = some (encC c) := by rw [hpre]; exact get_mid pre rest c
    have hpl : pre.length < l.length := by rw [hpre]; simp
    refine iter_go (by simp at hm; omega) fun Y hY => ?_
    simp only [il25l0_go, il25l0b, go_sem, reduceIte, Nat.reduceEqDiff, Nat.reduceAdd, Int.reduceEq, Nat.reduceLeDiff, Nat.reduceLT, Nat.reduceBEq, Nat.reduceMul, Nat.reduceSub, Int.reduceToNat, Int.reduceLE, Int.reduceLT, Int.reduceAdd, Int.reduceSub, Int.reduceMul, Int.reduceNeg, Int.reduceDiv, Int.reduceMod, Int.reduceTDiv, Int.reduceTMod, Int.reducePow, e9, e10, e11, e3, hlt, hget, encC_cells, streamId_ans]
    (repeat' ((first | with_reducible refine brG_intro (fun hc => ?_) (fun hc => ?_) | with_reducible refine brC_intro (fun hc => ?_) (fun hc => ?_) | ((with_reducible refine c_opsD ?_); have hc := @List.length_nil Nat) | ((with_reducible refine c_opsT ?_); have hc := @List.length_nil Nat) | ((with_reducible refine and_crit ?_ ?_); rfl; have hc := @List.length_nil Nat) | ((with_reducible refine crit_done ?_); rfl) | ((with_reducible refine mkC_go (fun _ => ?_)); have hc := @List.length_nil Nat) | ((with_reducible refine mkL_go (fun _ => ?_)); have hc := @List.length_nil Nat)) <;> (try simp only [Bool.not_eq_true', Bool.not_eq_false', Bool.not_true, Bool.not_false] at hc) <;> (try simp only [hc, go_sem, reduceIte, Nat.reduceEqDiff, Nat.reduceAdd, Int.reduceEq, Nat.reduceLeDiff, Nat.reduceLT, Nat.reduceBEq, Nat.reduceMul, Nat.reduceSub, Int.reduceToNat, Int.reduceLE, Int.reduceLT, Int.reduceAdd, Int.reduceSub, Int.reduceMul, Int.reduceNeg, Int.reduceDiv, Int.reduceMod, Int.reduceTDiv, Int.reduceTMod, Int.reducePow, e9, e10, e11, e3, hlt, hget, encC_cells, streamId_ans, number_ans])))
    all_goals first
      | exact h1 (by rw [hb]; simp [chk, okB, *]) _ _ (by simp only [go_sem, reduceIte, Nat.reduceEqDiff, Nat.reduceAdd, Int.reduceEq, Nat.reduceLeDiff, Nat.reduceLT, Nat.reduceBEq, Nat.reduceMul, Nat.reduceSub, Int.reduceToNat, Int.reduceLE, Int.reduceLT, Int.reduceAdd, Int.reduceSub, Int.reduceMul, Int.reduceNeg, Int.reduceDiv, Int.reduceMod, Int.reduceTDiv, Int.reduceTMod, Int.reducePow])
      | (rw [hY]
         refine ih (pre ++ [c]) c.1 (m - 1) _ (by simp [hpre]) (by rw [hb]; simp [chk, okB, *]) (by simp at hm; omega) ?_ ?_ ?_ ?_
         · simp only [go_sem, reduceIte, Nat.reduceEqDiff, Nat.reduceAdd, Int.reduceEq, Nat.reduceLeDiff, Nat.reduceLT, Nat.reduceBEq, Nat.reduceMul, Nat.reduceSub, Int.reduceToNat, Int.reduceLE, Int.reduceLT, Int.reduceAdd, Int.reduceSub, Int.reduceMul, Int.reduceNeg, Int.reduceDiv, Int.reduceMod, Int.reduceTDiv, Int.reduceTMod, Int.reducePow]
         · simp only [go_sem, reduceIte, Nat.reduceEqDiff, Nat.reduceAdd, Int.reduceEq, Nat.reduceLeDiff, Nat.reduceLT, Nat.reduceBEq, Nat.reduceMul, Nat.reduceSub, Int.reduceToNat, Int.reduceLE, Int.reduceLT, Int.reduceAdd, Int.reduceSub, Int.reduceMul, Int.reduceNeg, Int.reduceDiv, Int.reduceMod, Int.reduceTDiv, Int.reduceTMod, Int.reducePow]
         · simp only [go_sem, reduceIte, Nat.reduceEqDiff, Nat.reduceAdd, Int.reduceEq, Nat.reduceLeDiff, Nat.reduceLT, Nat.reduceBEq, Nat.reduceMul, Nat.reduceSub, Int.reduceToNat, Int.reduceLE, Int.reduceLT, Int.reduceAdd, Int.reduceSub, Int.reduceMul, Int.reduceNeg, Int.reduceDiv, Int.reduceMod, Int.reduceTDiv, Int.reduceTMod, Int.reducePow]
           rw [wrap_i64 (by omega) (by omega)]
           simp
         · simp only [go_sem, reduceIte, Nat.reduceEqDiff, Nat.reduceAdd, Int.reduceEq, Nat.reduceLeDiff, Nat.reduceLT, Nat.reduceBEq, Nat.reduceMul, Nat.reduceSub, Int.reduceToNat, Int.reduceLE, Int.reduceLT, Int.reduceAdd, Int.reduceSub, Int.reduceMul, Int.reduceNeg, Int.reduceDiv, Int.reduceMod, Int.reduceTDiv, Int.reduceTMod, Int.reducePow])

theorem check_ans (l : List Cnt) : ans Try.prog pol 25 [.sl false 2 (l.map encC)] = some (.sc (.int .i64 (if l.length ≤ 12 ∧ chk 0 l = true then 0 else 490))) := by
  obtain ⟨n, hn⟩ : ∃ n : Nat, 20 < n := ⟨21, by omega⟩
  refine ans_go n 1 il25_eq (Nat.le_of_ble_eq_true rfl) ?_
  by_cases hl : l.length ≤ 12
  · have hd : decide ((12 : Int) < l.length) = false := by simp; omega
    simp only [il25c, go_sem, reduceIte, Nat.reduceEqDiff, Nat.reduceAdd, Int.reduceEq, Nat.reduceLeDiff, Nat.reduceLT, Nat.reduceBEq, Nat.reduceMul, Nat.reduceSub, Int.reduceToNat, Int.reduceLE, Int.reduceLT, Int.reduceAdd, Int.reduceSub, Int.reduceMul, Int.reduceNeg, Int.reduceDiv, Int.reduceMod, Int.reduceTDiv, Int.reduceTMod, Int.reducePow, List.length_map, hd]
    refine check_loop l hl _ n (chk 0 l) ?_ ?_ l [] 0 n _ rfl rfl (by omega) ?_ ?_ ?_ ?_
    · intro hb e h he
      simp only [go_sem, reduceIte, Nat.reduceEqDiff, Nat.reduceAdd, Int.reduceEq, Nat.reduceLeDiff, Nat.reduceLT, Nat.reduceBEq, Nat.reduceMul, Nat.reduceSub, Int.reduceToNat, Int.reduceLE, Int.reduceLT, Int.reduceAdd, Int.reduceSub, Int.reduceMul, Int.reduceNeg, Int.reduceDiv, Int.reduceMod, Int.reduceTDiv, Int.reduceTMod, Int.reducePow, he]
      rw [if_neg (by simp [hb])]
    · intro hb e
      simp only [go_sem, reduceIte, Nat.reduceEqDiff, Nat.reduceAdd, Int.reduceEq, Nat.reduceLeDiff, Nat.reduceLT, Nat.reduceBEq, Nat.reduceMul, Nat.reduceSub, Int.reduceToNat, Int.reduceLE, Int.reduceLT, Int.reduceAdd, Int.reduceSub, Int.reduceMul, Int.reduceNeg, Int.reduceDiv, Int.reduceMod, Int.reduceTDiv, Int.reduceTMod, Int.reducePow]
      rw [if_pos ⟨hl, hb⟩]
    all_goals simp only [go_sem, reduceIte, Nat.reduceEqDiff, Nat.reduceAdd, Int.reduceEq, Nat.reduceLeDiff, Nat.reduceLT, Nat.reduceBEq, Nat.reduceMul, Nat.reduceSub, Int.reduceToNat, Int.reduceLE, Int.reduceLT, Int.reduceAdd, Int.reduceSub, Int.reduceMul, Int.reduceNeg, Int.reduceDiv, Int.reduceMod, Int.reduceTDiv, Int.reduceTMod, Int.reducePow, List.length_map]
    all_goals rfl
  · have hd : decide ((12 : Int) < l.length) = true := by simp; omega
    simp only [il25c, go_sem, reduceIte, Nat.reduceEqDiff, Nat.reduceAdd, Int.reduceEq, Nat.reduceLeDiff, Nat.reduceLT, Nat.reduceBEq, Nat.reduceMul, Nat.reduceSub, Int.reduceToNat, Int.reduceLE, Int.reduceLT, Int.reduceAdd, Int.reduceSub, Int.reduceMul, Int.reduceNeg, Int.reduceDiv, Int.reduceMod, Int.reduceTDiv, Int.reduceTMod, Int.reducePow, List.length_map, hd]
    rw [if_neg (by omega)]

end Go.Proofs.Ytkamfflnfnjbeaa
