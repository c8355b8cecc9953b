/- Next: what package seq answers. -/
import Derived.Test.YtkamfflnfnjbeaaSeqC
set_option linter.unusedVariables false
namespace Go.Proofs.Ytkamfflnfnjbeaa
open Go Go.Abs
set_option linter.unusedSimpArgs false
set_option maxRecDepth 100000

theorem encC_eq (c : Cnt) : T.agg [.sc (.int .i64 c.1), .sc (.int .i64 c.2)] = encC c := rfl

theorem geq_ans (c : Cnt) (s : Int) : ans Try.prog pol 46 [.agg [.sc (.int .i64 c.1), .sc (.int .i64 c.2)], .ip [.sc (.int .i64 s)]] = some (.sc (.bool (decide (s ≤ c.1)))) := by
  refine ans_go 1 1 il46_eq (Nat.le_of_ble_eq_true rfl) ?_
  simp only [il46c, go_sem, reduceIte, Nat.reduceEqDiff, Nat.reduceAdd, Int.reduceEq, Nat.reduceLeDiff, Nat.reduceLT, Nat.reduceBEq, Nat.reduceMul, Nat.reduceSub, Int.reduceToNat, Int.reduceLE, Int.reduceLT, Int.reduceAdd, Int.reduceSub, Int.reduceMul, Int.reduceNeg, Int.reduceDiv, Int.reduceMod, Int.reduceTDiv, Int.reduceTMod, Int.reducePow]

def fnd (s : Int) (l : List Cnt) : Nat := l.findIdx (fun c => decide (s ≤ c.1))

theorem find_loop (l : List Cnt) (s : Int) (hl : l.length ≤ 12) (I : Inl) (n : Nat) {R : Xit → FEnv → Heap → Prop} (h1 : fnd s l < l.length → ∀ e h, e 4 = .t (.sc (.int .i64 (fnd s l : Nat))) → R .ret e h)
    (h2 : fnd s l = l.length → ∀ e, e 0 = .t (.sl false 2 (l.map encC)) → R (.exit 0) e []) :
    ∀ (rest pre : List Cnt) (m : Nat) (e : FEnv), l = pre ++ rest → fnd s l = pre.length + fnd s rest → rest.length < m → e 0 = .t (.sl false 2 (l.map encC)) → e 1 = .t (.fn (.func 46) [] [.ip [.sc (.int .i64 s)]]) → e 7 = .t (.sl false 2 (l.map encC)) → e 8 = .t (.sc (.int .i64 l.length)) →
      e 9 = .t (.sc (.int .i64 (pre.length : Nat))) → wpIter 0 (some [0, 1, 7, 8, 9]) (wc Try.prog pol (ans Try.prog pol) I n 45 il45l0) R m e [] := by
  intro rest
  induction rest with
  | nil =>
    intro pre m e hpre hf hm e0 e1 e7 e8 e9
    have hlt : decide (((pre.length : Nat) : Int) < l.length) = false := by simp [hpre]
    refine iter_go (by omega) fun Y hY => ?_
    simp only [il45l0_go, il45l0b, go_sem, reduceIte, Nat.reduceEqDiff, Nat.reduceAdd, Int.reduceEq, Nat.reduceLeDiff, Nat.reduceLT, Nat.reduceBEq, Nat.reduceMul, Nat.reduceSub, Int.reduceToNat, Int.reduceLE, Int.reduceLT, Int.reduceAdd, Int.reduceSub, Int.reduceMul, Int.reduceNeg, Int.reduceDiv, Int.reduceMod, Int.reduceTDiv, Int.reduceTMod, Int.reducePow, e0, e1, e7, e8, e9, hlt]
    exact h2 (by rw [hf]; simp [fnd, hpre]) _ (by simp only [go_sem, reduceIte, Nat.reduceEqDiff, Nat.reduceAdd, Int.reduceEq, Nat.reduceLeDiff, Nat.reduceLT, Nat.reduceBEq, Nat.reduceMul, Nat.reduceSub, Int.reduceToNat, Int.reduceLE, Int.reduceLT, Int.reduceAdd, Int.reduceSub, Int.reduceMul, Int.reduceNeg, Int.reduceDiv, Int.reduceMod, Int.reduceTDiv, Int.reduceTMod, Int.reducePow, e0])
  | cons c rest ih =>
    intro pre m e hpre hf hm e0 e1 e7 e8 e9
    have hlt : decide (((pre.length : Nat) : Int) < l.length) = true := by simp [hpre]; omega
    have hget : (l.map encC)[pre.length]? = some (encC c) := by rw [hpre]; exact get_mid pre rest c
    have hpl : pre.length < l.length := by rw [hpre]; simp
    refine iter_go (by simp at hm; omega) fun Y hY => ?_
    simp only [il45l0_go, il45l0b, go_sem, reduceIte, Nat.reduceEqDiff, Nat.reduceAdd, Int.reduceEq, Nat.reduceLeDiff, Nat.reduceLT, Nat.reduceBEq, Nat.reduceMul, Nat.reduceSub, Int.reduceToNat, Int.reduceLE, Int.reduceLT, Int.reduceAdd, Int.reduceSub, Int.reduceMul, Int.reduceNeg, Int.reduceDiv, Int.reduceMod, Int.reduceTDiv, Int.reduceTMod, Int.reducePow, e0, e1, e7, e8, e9, hlt, hget, encC_cells, geq_ans]
    (repeat' ((first | with_reducible refine brG_intro (fun hc => ?_) (fun hc => ?_) | with_reducible refine brC_intro (fun hc => ?_) (fun hc => ?_) | ((with_reducible refine c_opsD ?_); have hc := @List.length_nil Nat) | ((with_reducible refine c_opsT ?_); have hc := @List.length_nil Nat) | ((with_reducible refine and_crit ?_ ?_); rfl; have hc := @List.length_nil Nat) | ((with_reducible refine crit_done ?_); rfl) | ((with_reducible refine mkC_go (fun _ => ?_)); have hc := @List.length_nil Nat) | ((with_reducible refine mkL_go (fun _ => ?_)); have hc := @List.length_nil Nat)) <;> (try simp only [Bool.not_eq_true', Bool.not_eq_false', Bool.not_true, Bool.not_false] at hc) <;> (try simp only [hc, go_sem, reduceIte, Nat.reduceEqDiff, Nat.reduceAdd, Int.reduceEq, Nat.reduceLeDiff, Nat.reduceLT, Nat.reduceBEq, Nat.reduceMul, Nat.reduceSub, Int.reduceToNat, Int.reduceLE, Int.reduceLT, Int.reduceAdd, Int.reduceSub, Int.reduceMul, Int.reduceNeg, Int.reduceDiv, Int.reduceMod, Int.reduceTDiv, Int.reduceTMod, Int.reducePow, e0, e1, e7, e8, e9, hlt, hget, encC_cells, geq_ans])))
    · simp only [decide_eq_true_eq] at hc
      have hz : fnd s (c :: rest) = 0 := by simp [fnd, List.findIdx_cons, hc]
      exact h1 (by omega) _ _ (by simp only [go_sem, reduceIte, Nat.reduceEqDiff, Nat.reduceAdd, Int.reduceEq, Nat.reduceLeDiff, Nat.reduceLT, Nat.reduceBEq, Nat.reduceMul, Nat.reduceSub, Int.reduceToNat, Int.reduceLE, Int.reduceLT, Int.reduceAdd, Int.reduceSub, Int.reduceMul, Int.reduceNeg, Int.reduceDiv, Int.reduceMod, Int.reduceTDiv, Int.reduceTMod, Int.reducePow]; rw [hf, hz]; rfl)
    · simp only [decide_eq_false_iff_not] at hc
      have hz : fnd s (c :: rest) = fnd s rest + 1 := by simp [fnd, List.findIdx_cons, hc]
      rw [hY]
      refine ih (pre ++ [c]) (m - 1) _ (by simp [hpre]) (by simp; omega) (by simp at hm; omega) ?_ ?_ ?_ ?_ ?_
      all_goals simp only [go_sem, reduceIte, Nat.reduceEqDiff, Nat.reduceAdd, Int.reduceEq, Nat.reduceLeDiff, Nat.reduceLT, Nat.reduceBEq, Nat.reduceMul, Nat.reduceSub, Int.reduceToNat, Int.reduceLE, Int.reduceLT, Int.reduceAdd, Int.reduceSub, Int.reduceMul, Int.reduceNeg, Int.reduceDiv, Int.reduceMod, Int.reduceTDiv, Int.reduceTMod, Int.reducePow, e0, e1, e7, e8]
      rw [wrap_i64 (by omega) (by omega)]
      simp

theorem find_ans (l : List Cnt) (s : Int) (hl : l.length ≤ 12) : ans Try.prog pol 45 [.sl false 2 (l.map encC), .fn (.func 46) [] [.ip [.sc (.int .i64 s)]]] = some (.sc (.int .i64 (fnd s l : Nat))) := by
  obtain ⟨n, hn⟩ : ∃ n : Nat, 20 < n := ⟨21, by omega⟩
  refine ans_go n 1 il45_eq (Nat.le_of_ble_eq_true rfl) ?_
  simp only [il45c, go_sem, reduceIte, Nat.reduceEqDiff, Nat.reduceAdd, Int.reduceEq, Nat.reduceLeDiff, Nat.reduceLT, Nat.reduceBEq, Nat.reduceMul, Nat.reduceSub, Int.reduceToNat, Int.reduceLE, Int.reduceLT, Int.reduceAdd, Int.reduceSub, Int.reduceMul, Int.reduceNeg, Int.reduceDiv, Int.reduceMod, Int.reduceTDiv, Int.reduceTMod, Int.reducePow, List.length_map]
  refine find_loop l s hl _ n ?_ ?_ l [] n _ rfl (by simp) (by omega) ?_ ?_ ?_ ?_ ?_
  · intro hb e h he
    simp only [go_sem, reduceIte, Nat.reduceEqDiff, Nat.reduceAdd, Int.reduceEq, Nat.reduceLeDiff, Nat.reduceLT, Nat.reduceBEq, Nat.reduceMul, Nat.reduceSub, Int.reduceToNat, Int.reduceLE, Int.reduceLT, Int.reduceAdd, Int.reduceSub, Int.reduceMul, Int.reduceNeg, Int.reduceDiv, Int.reduceMod, Int.reduceTDiv, Int.reduceTMod, Int.reducePow, he]
  · intro hb e he
    simp only [go_sem, reduceIte, Nat.reduceEqDiff, Nat.reduceAdd, Int.reduceEq, Nat.reduceLeDiff, Nat.reduceLT, Nat.reduceBEq, Nat.reduceMul, Nat.reduceSub, Int.reduceToNat, Int.reduceLE, Int.reduceLT, Int.reduceAdd, Int.reduceSub, Int.reduceMul, Int.reduceNeg, Int.reduceDiv, Int.reduceMod, Int.reduceTDiv, Int.reduceTMod, Int.reducePow, he, List.length_map, hb]
  all_goals simp only [go_sem, reduceIte, Nat.reduceEqDiff, Nat.reduceAdd, Int.reduceEq, Nat.reduceLeDiff, Nat.reduceLT, Nat.reduceBEq, Nat.reduceMul, Nat.reduceSub, Int.reduceToNat, Int.reduceLE, Int.reduceLT, Int.reduceAdd, Int.reduceSub, Int.reduceMul, Int.reduceNeg, Int.reduceDiv, Int.reduceMod, Int.reduceTDiv, Int.reduceTMod, Int.reducePow, List.length_map]
  all_goals rfl

abbrev nilT : T := .sc (.slice none 0 0)
def lst (l : List Cnt) : T := .sl false 2 (l.map encC)
def err3 (k : Int) : T := .tup [nilT, .sc (.int .i64 0), .sc (.int .i64 k)]
def put3 (l : List Cnt) (i : Nat) (j : Nat) (s n : Int) : T := .tup [lst (l.take i ++ (s, (n + 1) % 65536) :: l.drop j), .sc (.int .i64 n), .sc (.int .i64 0)]
def nxt (l : List Cnt) (s : Int) : T :=
  if ¬ (l.length ≤ 12 ∧ chk 0 l = true) then err3 490
  else if ¬ (1 ≤ s ∧ s ≤ 4095) then err3 2
  else match l[fnd s l]? with
    | some c => if c.1 = s then put3 l (fnd s l) (fnd s l + 1) s c.2 else if l.length = 12 then err3 7 else put3 l (fnd s l) (fnd s l) s 0
    | none => if l.length = 12 then err3 7 else put3 l (fnd s l) (fnd s l) s 0

theorem chk_mem : ∀ {l : List Cnt} {b : Int}, chk b l = true → ∀ c ∈ l, (1 ≤ c.1 ∧ c.1 ≤ 4095) ∧ 0 ≤ c.2 ∧ c.2 < 65536 := by
  intro l
  induction l with
  | nil => intro b _ c hc; cases hc
  | cons x l ih =>
    intro b h c hc
    simp only [chk, okB, Bool.and_eq_true, decide_eq_true_eq] at h
    cases hc with
    | head => exact ⟨h.1.1, h.1.2.2⟩
    | tail _ hc => exact ih h.2 c hc

theorem next_ans (l : List Cnt) (s : Int) : ans Try.prog pol 24 [.sl false 2 (l.map encC), .sc (.int .i64 s)] = some (nxt l s) := by
  obtain ⟨n, hn⟩ : ∃ n : Nat, 20 < n := ⟨21, by omega⟩
  refine ans_go n 1 il24_eq (Nat.le_of_ble_eq_true rfl) ?_
  by_cases hv : l.length ≤ 12 ∧ chk 0 l = true
  · by_cases hs : 1 ≤ s ∧ s ≤ 4095
    · have c1 := check_ans l
      rw [if_pos hv] at c1
      have c2 := streamId_ans s
      rw [decide_eq_true hs] at c2
      have c3 := find_ans l s hv.1
      have hfl : fnd s l ≤ l.length := List.findIdx_le_length
      by_cases hlt : fnd s l < l.length
      · obtain ⟨c, hc⟩ : ∃ c, l[fnd s l]? = some c := ⟨l[fnd s l], by simp [hlt]⟩
        have hm := (chk_mem hv.2 c (List.mem_of_getElem? hc)).2
        have hcc := hc
        have hg : (l.map encC)[fnd s l]? = some (encC c) := by simp [hc]
        have d1 : decide (((fnd s l : Nat) : Int) < l.length) = true := by simp [hlt]
        have w1 : IntKind.i64.wrap (((fnd s l : Nat) : Int) + 1) = ((fnd s l + 1 : Nat) : Int) := by rw [wrap_i64 (by omega) (by omega)]; simp
        have hf1 : fnd s l + 1 ≤ l.length := hlt
        have hmin : min (fnd s l) l.length = fnd s l := Nat.min_eq_left hfl
        have r1 : (fnd s l + 1) * 16 ≤ roomB := by unfold roomB; omega
        have r2 : (fnd s l + 1 + (l.length - (fnd s l + 1))) * 16 ≤ roomB := by unfold roomB; omega
        have r3 : (fnd s l + 1 + (l.length - fnd s l)) * 16 ≤ roomB := by unfold roomB; omega
        (simp only [il24c, go_sem, reduceIte, Nat.reduceEqDiff, Nat.reduceAdd, Int.reduceEq, Nat.reduceLeDiff, Nat.reduceLT, Nat.reduceBEq, Nat.reduceMul, Nat.reduceSub, Int.reduceToNat, Int.reduceLE, Int.reduceLT, Int.reduceAdd, Int.reduceSub, Int.reduceMul, Int.reduceNeg, Int.reduceDiv, Int.reduceMod, Int.reduceTDiv, Int.reduceTMod, Int.reducePow, c1, c2, c3, hfl, hf1, hg, encC_cells, d1, w1, wrap_ans, hmin, r1, r2, r3] <;> (repeat' ((first | with_reducible refine brG_intro (fun hc => ?_) (fun hc => ?_) | with_reducible refine brC_intro (fun hc => ?_) (fun hc => ?_) | ((with_reducible refine c_opsD ?_); have hc := @List.length_nil Nat) | ((with_reducible refine c_opsT ?_); have hc := @List.length_nil Nat) | ((with_reducible refine and_crit ?_ ?_); rfl; have hc := @List.length_nil Nat) | ((with_reducible refine crit_done ?_); rfl) | ((with_reducible refine mkC_go (fun _ => ?_)); have hc := @List.length_nil Nat) | ((with_reducible refine mkL_go (fun _ => ?_)); have hc := @List.length_nil Nat)) <;> (try simp only [Bool.not_eq_true', Bool.not_eq_false', Bool.not_true, Bool.not_false] at hc) <;> (try simp only [hc, go_sem, reduceIte, Nat.reduceEqDiff, Nat.reduceAdd, Int.reduceEq, Nat.reduceLeDiff, Nat.reduceLT, Nat.reduceBEq, Nat.reduceMul, Nat.reduceSub, Int.reduceToNat, Int.reduceLE, Int.reduceLT, Int.reduceAdd, Int.reduceSub, Int.reduceMul, Int.reduceNeg, Int.reduceDiv, Int.reduceMod, Int.reduceTDiv, Int.reduceTMod, Int.reducePow, c1, c2, c3, hfl, hf1, hg, encC_cells, d1, w1, wrap_ans, hmin, r1, r2, r3]))))
        · simp only [decide_eq_true_eq] at *
          have h1 : c.1 = s := by assumption
          rw [wrap_i64 (by omega) (by omega)]
          simp [nxt, hv, hs, hcc, h1, put3, lst, encC]
        · simp only [decide_eq_true_eq, decide_eq_false_iff_not] at *
          have h1 : ¬ c.1 = s := by assumption
          have h12 : l.length = 12 := by omega
          simp [nxt, hv, hs, hcc, h1, h12, err3]
        · simp only [decide_eq_true_eq, decide_eq_false_iff_not] at *
          have h1 : ¬ c.1 = s := by assumption
          have h12 : ¬ l.length = 12 := by omega
          have hw : IntKind.i64.wrap 1 = 1 := wrap_i64 (by omega) (by omega)
          simp [nxt, hv, hs, hcc, h1, h12, put3, lst, encC, hw]
      · have hfe : fnd s l = l.length := by omega
        have hnone : l[fnd s l]? = none := by simp [hfe]
        have d1 : decide (((fnd s l : Nat) : Int) < l.length) = false := by simp [hfe]
        have hmin : min (fnd s l) l.length = fnd s l := Nat.min_eq_left hfl
        have r1 : (fnd s l + 1) * 16 ≤ roomB := by unfold roomB; omega
        have r3 : (fnd s l + 1 + (l.length - fnd s l)) * 16 ≤ roomB := by unfold roomB; omega
        (simp only [il24c, go_sem, reduceIte, Nat.reduceEqDiff, Nat.reduceAdd, Int.reduceEq, Nat.reduceLeDiff, Nat.reduceLT, Nat.reduceBEq, Nat.reduceMul, Nat.reduceSub, Int.reduceToNat, Int.reduceLE, Int.reduceLT, Int.reduceAdd, Int.reduceSub, Int.reduceMul, Int.reduceNeg, Int.reduceDiv, Int.reduceMod, Int.reduceTDiv, Int.reduceTMod, Int.reducePow, c1, c2, c3, hfl, d1, wrap_ans, hmin, r1, r3] <;> (repeat' ((first | with_reducible refine brG_intro (fun hc => ?_) (fun hc => ?_) | with_reducible refine brC_intro (fun hc => ?_) (fun hc => ?_) | ((with_reducible refine c_opsD ?_); have hc := @List.length_nil Nat) | ((with_reducible refine c_opsT ?_); have hc := @List.length_nil Nat) | ((with_reducible refine and_crit ?_ ?_); rfl; have hc := @List.length_nil Nat) | ((with_reducible refine crit_done ?_); rfl) | ((with_reducible refine mkC_go (fun _ => ?_)); have hc := @List.length_nil Nat) | ((with_reducible refine mkL_go (fun _ => ?_)); have hc := @List.length_nil Nat)) <;> (try simp only [Bool.not_eq_true', Bool.not_eq_false', Bool.not_true, Bool.not_false] at hc) <;> (try simp only [hc, go_sem, reduceIte, Nat.reduceEqDiff, Nat.reduceAdd, Int.reduceEq, Nat.reduceLeDiff, Nat.reduceLT, Nat.reduceBEq, Nat.reduceMul, Nat.reduceSub, Int.reduceToNat, Int.reduceLE, Int.reduceLT, Int.reduceAdd, Int.reduceSub, Int.reduceMul, Int.reduceNeg, Int.reduceDiv, Int.reduceMod, Int.reduceTDiv, Int.reduceTMod, Int.reducePow, c1, c2, c3, hfl, d1, wrap_ans, hmin, r1, r3]))))
        · simp only [decide_eq_true_eq, decide_eq_false_iff_not] at *
          have h12 : l.length = 12 := by omega
          simp [nxt, hv, hs, hnone, h12, err3]
        · simp only [decide_eq_true_eq, decide_eq_false_iff_not] at *
          have h12 : ¬ l.length = 12 := by omega
          have hw : IntKind.i64.wrap 1 = 1 := wrap_i64 (by omega) (by omega)
          simp [nxt, hv, hs, hnone, h12, put3, lst, encC, hw]
    · have c1 := check_ans l
      rw [if_pos hv] at c1
      have c2 := streamId_ans s
      rw [decide_eq_false hs] at c2
      (simp only [il24c, go_sem, reduceIte, Nat.reduceEqDiff, Nat.reduceAdd, Int.reduceEq, Nat.reduceLeDiff, Nat.reduceLT, Nat.reduceBEq, Nat.reduceMul, Nat.reduceSub, Int.reduceToNat, Int.reduceLE, Int.reduceLT, Int.reduceAdd, Int.reduceSub, Int.reduceMul, Int.reduceNeg, Int.reduceDiv, Int.reduceMod, Int.reduceTDiv, Int.reduceTMod, Int.reducePow, c1, c2, nxt, hv, hs, not_true, not_false_eq_true, err3] <;> (repeat' ((first | with_reducible refine brG_intro (fun hc => ?_) (fun hc => ?_) | with_reducible refine brC_intro (fun hc => ?_) (fun hc => ?_) | ((with_reducible refine c_opsD ?_); have hc := @List.length_nil Nat) | ((with_reducible refine c_opsT ?_); have hc := @List.length_nil Nat) | ((with_reducible refine and_crit ?_ ?_); rfl; have hc := @List.length_nil Nat) | ((with_reducible refine crit_done ?_); rfl) | ((with_reducible refine mkC_go (fun _ => ?_)); have hc := @List.length_nil Nat) | ((with_reducible refine mkL_go (fun _ => ?_)); have hc := @List.length_nil Nat)) <;> (try simp only [Bool.not_eq_true', Bool.not_eq_false', Bool.not_true, Bool.not_false] at hc) <;> (try simp only [hc, go_sem, reduceIte, Nat.reduceEqDiff, Nat.reduceAdd, Int.reduceEq, Nat.reduceLeDiff, Nat.reduceLT, Nat.reduceBEq, Nat.reduceMul, Nat.reduceSub, Int.reduceToNat, Int.reduceLE, Int.reduceLT, Int.reduceAdd, Int.reduceSub, Int.reduceMul, Int.reduceNeg, Int.reduceDiv, Int.reduceMod, Int.reduceTDiv, Int.reduceTMod, Int.reducePow, c1, c2, nxt, hv, hs, not_true, not_false_eq_true, err3]))))
  · have c1 := check_ans l
    rw [if_neg hv] at c1
    (simp only [il24c, go_sem, reduceIte, Nat.reduceEqDiff, Nat.reduceAdd, Int.reduceEq, Nat.reduceLeDiff, Nat.reduceLT, Nat.reduceBEq, Nat.reduceMul, Nat.reduceSub, Int.reduceToNat, Int.reduceLE, Int.reduceLT, Int.reduceAdd, Int.reduceSub, Int.reduceMul, Int.reduceNeg, Int.reduceDiv, Int.reduceMod, Int.reduceTDiv, Int.reduceTMod, Int.reducePow, c1, nxt, hv, not_false_eq_true, err3] <;> (repeat' ((first | with_reducible refine brG_intro (fun hc => ?_) (fun hc => ?_) | with_reducible refine brC_intro (fun hc => ?_) (fun hc => ?_) | ((with_reducible refine c_opsD ?_); have hc := @List.length_nil Nat) | ((with_reducible refine c_opsT ?_); have hc := @List.length_nil Nat) | ((with_reducible refine and_crit ?_ ?_); rfl; have hc := @List.length_nil Nat) | ((with_reducible refine crit_done ?_); rfl) | ((with_reducible refine mkC_go (fun _ => ?_)); have hc := @List.length_nil Nat) | ((with_reducible refine mkL_go (fun _ => ?_)); have hc := @List.length_nil Nat)) <;> (try simp only [Bool.not_eq_true', Bool.not_eq_false', Bool.not_true, Bool.not_false] at hc) <;> (try simp only [hc, go_sem, reduceIte, Nat.reduceEqDiff, Nat.reduceAdd, Int.reduceEq, Nat.reduceLeDiff, Nat.reduceLT, Nat.reduceBEq, Nat.reduceMul, Nat.reduceSub, Int.reduceToNat, Int.reduceLE, Int.reduceLT, Int.reduceAdd, Int.reduceSub, Int.reduceMul, Int.reduceNeg, Int.reduceDiv, Int.reduceMod, Int.reduceTDiv, Int.reduceTMod, Int.reducePow, c1, nxt, hv, not_false_eq_true, err3]))))

end Go.Proofs.Ytkamfflnfnjbeaa
