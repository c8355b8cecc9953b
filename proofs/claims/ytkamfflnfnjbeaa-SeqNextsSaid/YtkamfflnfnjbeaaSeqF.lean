/- The reference's Next. -/
import Derived.Test.YtkamfflnfnjbeaaSeqE
namespace Go.Proofs.Ytkamfflnfnjbeaa
open Go Go.Abs
set_option linter.unusedSimpArgs false
set_option linter.unusedVariables false
set_option maxRecDepth 100000
set_option maxHeartbeats 4000000

structure NS where
  out : List Cnt
  n : Int
  done : Bool

def stp (s : Int) (z : NS) (c : Cnt) : NS :=
  if c.1 = s then ⟨z.out ++ [(s, (c.2 + 1) % 65536)], c.2, true⟩
  else if z.done = false ∧ s < c.1 then ⟨z.out ++ [(s, 1)] ++ [c], z.n, true⟩
  else ⟨z.out ++ [c], z.n, z.done⟩

theorem fold_done (s : Int) : ∀ (l : List Cnt) (o : List Cnt) (n : Int), (∀ c ∈ l, s < c.1) → l.foldl (stp s) ⟨o, n, true⟩ = ⟨o ++ l, n, true⟩ := by
  intro l
  induction l with
  | nil => intro o n _; simp
  | cons c l ih =>
    intro o n h
    have hc := h c (by simp)
    rw [List.foldl_cons]
    have : stp s ⟨o, n, true⟩ c = ⟨o ++ [c], n, true⟩ := by
      rw [stp, if_neg (by omega), if_neg (by simp)]
    rw [this, ih _ _ (fun c hc => h c (by simp [hc]))]
    simp

theorem chk_gt : ∀ {l : List Cnt} {b : Int}, chk b l = true → ∀ c ∈ l, b < c.1 := by
  intro l
  induction l with
  | nil => intro b _ c hc; cases hc
  | cons x l ih =>
    intro b h c hc
    simp only [chk, okB, Bool.and_eq_true, decide_eq_true_eq, Bool.not_eq_true', decide_eq_false_iff_not] at h
    cases hc with
    | head => omega
    | tail _ hc => have := ih h.2 c hc; omega

theorem fold_nxt (s : Int) : ∀ (l : List Cnt) (o : List Cnt) (b : Int), chk b l = true →
    l.foldl (stp s) ⟨o, 0, false⟩ = match l[fnd s l]? with
      | some c => if c.1 = s then ⟨o ++ (l.take (fnd s l) ++ (s, (c.2 + 1) % 65536) :: l.drop (fnd s l + 1)), c.2, true⟩ else ⟨o ++ (l.take (fnd s l) ++ (s, 1) :: l.drop (fnd s l)), 0, true⟩
      | none => ⟨o ++ l, 0, false⟩ := by
  intro l
  induction l with
  | nil => intro o b _; simp [fnd]
  | cons c l ih =>
    intro o b h
    have hh := h
    simp only [chk, okB, Bool.and_eq_true] at h
    rw [List.foldl_cons]
    by_cases h1 : c.1 = s
    · have hf : fnd s (c :: l) = 0 := by simp [fnd, List.findIdx_cons, h1]
      have : stp s ⟨o, 0, false⟩ c = ⟨o ++ [(s, (c.2 + 1) % 65536)], c.2, true⟩ := by rw [stp, if_pos h1]
      rw [this, fold_done s l _ _ (fun x hx => by have := chk_gt h.2 x hx; omega), hf]
      simp [h1]
    · by_cases h2 : s < c.1
      · have hf : fnd s (c :: l) = 0 := by
          have hd : decide (s ≤ c.1) = true := decide_eq_true (by omega)
          simp only [fnd, List.findIdx_cons, hd, cond_true]
        have : stp s ⟨o, 0, false⟩ c = ⟨o ++ [(s, 1)] ++ [c], 0, true⟩ := by rw [stp, if_neg h1, if_pos ⟨rfl, h2⟩]
        rw [this, fold_done s l _ _ (fun x hx => by have := chk_gt h.2 x hx; omega), hf]
        simp [h1]
      · have hf : fnd s (c :: l) = fnd s l + 1 := by
          have hd : decide (s ≤ c.1) = false := decide_eq_false (by omega)
          simp only [fnd, List.findIdx_cons, hd, cond_false]
        have : stp s ⟨o, 0, false⟩ c = ⟨o ++ [c], 0, false⟩ := by rw [stp, if_neg h1, if_neg (fun h => h2 h.2)]
        rw [this, ih _ _ h.2, hf]
        simp only [List.getElem?_cons_succ, List.take_succ_cons, List.drop_succ_cons]
        cases l[fnd s l]? with
        | none => simp
        | some x => simp

def rowOf (out : List Cnt) : AObj := .row 2 ((out.map encC).map .t) 0
theorem rowOf_is (out : List Cnt) : rowIs 2 out.length (some (rowOf out)) := ⟨rfl, by simp, by simp⟩
theorem rowOf_es (out : List Cnt) : rowEs (some (rowOf out)) = (out.map encC).map .t := rfl
theorem rowOf_mr (out : List Cnt) : rowMr (some (rowOf out)) = 0 := rfl
theorem room16 {k : Nat} (hk : k ≤ 1000) : k * 16 ≤ roomB := Nat.le_trans (Nat.mul_le_mul_right 16 hk) (Nat.le_of_ble_eq_true rfl)

/-- What the reference comes to behind its loop. -/
def finN (s : Int) (z : NS) : T :=
  if 12 < (if z.done then z.out else z.out ++ [(s, 1)]).length then err3 7 else .tup [lst (if z.done then z.out else z.out ++ [(s, 1)]), .sc (.int .i64 z.n), .sc (.int .i64 0)]

theorem nxt_fold (l : List Cnt) (s : Int) (hv : l.length ≤ 12 ∧ chk 0 l = true) (hs : 1 ≤ s ∧ s ≤ 4095) : nxt l s = finN s (l.foldl (stp s) ⟨[], 0, false⟩) := by
  rw [fold_nxt s l [] 0 hv.2, nxt, if_neg (fun h => h hv), if_neg (fun h => h hs)]
  have hfl : fnd s l ≤ l.length := List.findIdx_le_length
  cases hc : l[fnd s l]? with
  | none =>
    have hfe : fnd s l = l.length := by
      have := List.getElem?_eq_none_iff.1 hc
      omega
    have ht : l.take (fnd s l) = l := by rw [hfe]; simp
    have hd : l.drop (fnd s l) = [] := by rw [hfe]; simp
    by_cases h12 : l.length = 12
    · simp [finN, h12]
    · have : ¬ 12 < l.length + 1 := by omega
      simp [finN, h12, this, put3, ht, hd]
  | some c =>
    have hlt : fnd s l < l.length := by
      rcases Nat.lt_or_ge (fnd s l) l.length with h | h
      · exact h
      · rw [List.getElem?_eq_none h] at hc; cases hc
    simp only []
    by_cases h1 : c.1 = s
    · have hlen : ¬ 12 < (l.take (fnd s l) ++ (s, (c.2 + 1) % 65536) :: l.drop (fnd s l + 1)).length := by
        rw [List.length_append, List.length_take, List.length_cons, List.length_drop]; omega
      rw [if_pos h1, if_pos h1]
      simp only [finN, if_true, List.nil_append, if_neg hlen, put3]
    · have hlen : (l.take (fnd s l) ++ (s, 1) :: l.drop (fnd s l)).length = l.length + 1 := by
        rw [List.length_append, List.length_take, List.length_cons, List.length_drop]; omega
      rw [if_neg h1, if_neg h1]
      simp only [finN, if_true, List.nil_append, hlen]
      by_cases h12 : l.length = 12
      · rw [if_pos h12, if_pos (by omega)]
      · rw [if_neg h12, if_neg (by omega)]
        simp [put3]

theorem fold_len (s : Int) : ∀ (l : List Cnt) (z : NS), (l.foldl (stp s) z).out.length ≤ z.out.length + 2 * l.length := by
  intro l
  induction l with
  | nil => intro z; simp
  | cons c l ih =>
    intro z
    rw [List.foldl_cons]
    refine Nat.le_trans (ih _) ?_
    have : (stp s z c).out.length ≤ z.out.length + 2 := by
      rw [stp]; split
      · simp
      · split <;> simp
    simp only [List.length_cons]
    omega

/-- The list built so far lies in row 0. -/
def outAt (out : List Cnt) (v : AV) (h : Heap) : Prop := v = .ms 0 out.length 0 out.length 2 false ∧ h = [rowOf out]

theorem next'_ans (l : List Cnt) (s : Int) (hl : l.length ≤ 1000) : ans Try.prog pol 28 [.sl false 2 (l.map encC), .sc (.int .i64 s)] = some (nxt l s) := by
  have c1 := right_ans l hl
  by_cases hv : l.length ≤ 12 ∧ chk 0 l = true
  rotate_left
  · have hb : (chk 0 l && decide (l.length ≤ 12)) = false := by
      cases hc : chk 0 l <;> simp_all
    rw [hb] at c1
    refine ans_go 30 1 il28_eq (Nat.le_of_ble_eq_true rfl) ?_
    (simp only [il28c, go_sem, reduceIte, Nat.reduceEqDiff, Nat.reduceAdd, Int.reduceEq, Nat.reduceLeDiff, Nat.reduceLT, Nat.reduceBEq, Nat.reduceMul, Nat.reduceSub, Int.reduceToNat, Int.reduceLE, Int.reduceLT, Int.reduceAdd, Int.reduceSub, Int.reduceMul, Int.reduceNeg, Int.reduceDiv, Int.reduceMod, Int.reduceTDiv, Int.reduceTMod, Int.reducePow, c1, nxt, hv, not_false_eq_true, err3] <;> (repeat' ((first | with_reducible refine brG_intro (fun hc => ?_) (fun hc => ?_) | with_reducible refine brC_intro (fun hc => ?_) (fun hc => ?_) | ((with_reducible refine c_opsD ?_); have hc := @List.length_nil Nat) | ((with_reducible refine c_opsT ?_); have hc := @List.length_nil Nat) | ((with_reducible refine and_crit ?_ ?_); rfl; have hc := @List.length_nil Nat) | ((with_reducible refine crit_done ?_); rfl) | ((with_reducible refine mkC_go (fun _ => ?_)); have hc := @List.length_nil Nat) | ((with_reducible refine mkL_go (fun _ => ?_)); have hc := @List.length_nil Nat)) <;> (try simp only [Bool.not_eq_true', Bool.not_eq_false', Bool.not_true, Bool.not_false] at hc) <;> (try simp only [hc, go_sem, reduceIte, Nat.reduceEqDiff, Nat.reduceAdd, Int.reduceEq, Nat.reduceLeDiff, Nat.reduceLT, Nat.reduceBEq, Nat.reduceMul, Nat.reduceSub, Int.reduceToNat, Int.reduceLE, Int.reduceLT, Int.reduceAdd, Int.reduceSub, Int.reduceMul, Int.reduceNeg, Int.reduceDiv, Int.reduceMod, Int.reduceTDiv, Int.reduceTMod, Int.reducePow, c1, nxt, hv, not_false_eq_true, err3]))))
  have hb : (chk 0 l && decide (l.length ≤ 12)) = true := by simp [hv]
  rw [hb] at c1
  by_cases hs : 1 ≤ s ∧ s ≤ 4095
  rotate_left
  · refine ans_go 30 1 il28_eq (Nat.le_of_ble_eq_true rfl) ?_
    by_cases h1 : s < 1
    · have d1 : decide (s < 1) = true := decide_eq_true h1
      (simp only [il28c, go_sem, reduceIte, Nat.reduceEqDiff, Nat.reduceAdd, Int.reduceEq, Nat.reduceLeDiff, Nat.reduceLT, Nat.reduceBEq, Nat.reduceMul, Nat.reduceSub, Int.reduceToNat, Int.reduceLE, Int.reduceLT, Int.reduceAdd, Int.reduceSub, Int.reduceMul, Int.reduceNeg, Int.reduceDiv, Int.reduceMod, Int.reduceTDiv, Int.reduceTMod, Int.reducePow, c1, d1, nxt, hv, hs, not_true, not_false_eq_true, err3] <;> (repeat' ((first | with_reducible refine brG_intro (fun hc => ?_) (fun hc => ?_) | with_reducible refine brC_intro (fun hc => ?_) (fun hc => ?_) | ((with_reducible refine c_opsD ?_); have hc := @List.length_nil Nat) | ((with_reducible refine c_opsT ?_); have hc := @List.length_nil Nat) | ((with_reducible refine and_crit ?_ ?_); rfl; have hc := @List.length_nil Nat) | ((with_reducible refine crit_done ?_); rfl) | ((with_reducible refine mkC_go (fun _ => ?_)); have hc := @List.length_nil Nat) | ((with_reducible refine mkL_go (fun _ => ?_)); have hc := @List.length_nil Nat)) <;> (try simp only [Bool.not_eq_true', Bool.not_eq_false', Bool.not_true, Bool.not_false] at hc) <;> (try simp only [hc, go_sem, reduceIte, Nat.reduceEqDiff, Nat.reduceAdd, Int.reduceEq, Nat.reduceLeDiff, Nat.reduceLT, Nat.reduceBEq, Nat.reduceMul, Nat.reduceSub, Int.reduceToNat, Int.reduceLE, Int.reduceLT, Int.reduceAdd, Int.reduceSub, Int.reduceMul, Int.reduceNeg, Int.reduceDiv, Int.reduceMod, Int.reduceTDiv, Int.reduceTMod, Int.reducePow, c1, d1, nxt, hv, hs, not_true, not_false_eq_true, err3]))))
    · have d1 : decide (s < 1) = false := decide_eq_false h1
      have d2 : decide (4095 < s) = true := decide_eq_true (by omega)
      (simp only [il28c, go_sem, reduceIte, Nat.reduceEqDiff, Nat.reduceAdd, Int.reduceEq, Nat.reduceLeDiff, Nat.reduceLT, Nat.reduceBEq, Nat.reduceMul, Nat.reduceSub, Int.reduceToNat, Int.reduceLE, Int.reduceLT, Int.reduceAdd, Int.reduceSub, Int.reduceMul, Int.reduceNeg, Int.reduceDiv, Int.reduceMod, Int.reduceTDiv, Int.reduceTMod, Int.reducePow, c1, d1, d2, nxt, hv, hs, not_true, not_false_eq_true, err3] <;> (repeat' ((first | with_reducible refine brG_intro (fun hc => ?_) (fun hc => ?_) | with_reducible refine brC_intro (fun hc => ?_) (fun hc => ?_) | ((with_reducible refine c_opsD ?_); have hc := @List.length_nil Nat) | ((with_reducible refine c_opsT ?_); have hc := @List.length_nil Nat) | ((with_reducible refine and_crit ?_ ?_); rfl; have hc := @List.length_nil Nat) | ((with_reducible refine crit_done ?_); rfl) | ((with_reducible refine mkC_go (fun _ => ?_)); have hc := @List.length_nil Nat) | ((with_reducible refine mkL_go (fun _ => ?_)); have hc := @List.length_nil Nat)) <;> (try simp only [Bool.not_eq_true', Bool.not_eq_false', Bool.not_true, Bool.not_false] at hc) <;> (try simp only [hc, go_sem, reduceIte, Nat.reduceEqDiff, Nat.reduceAdd, Int.reduceEq, Nat.reduceLeDiff, Nat.reduceLT, Nat.reduceBEq, Nat.reduceMul, Nat.reduceSub, Int.reduceToNat, Int.reduceLE, Int.reduceLT, Int.reduceAdd, Int.reduceSub, Int.reduceMul, Int.reduceNeg, Int.reduceDiv, Int.reduceMod, Int.reduceTDiv, Int.reduceTMod, Int.reducePow, c1, d1, d2, nxt, hv, hs, not_true, not_false_eq_true, err3]))))
  have d1 : decide (s < 1) = false := decide_eq_false (by omega)
  have d2 : decide (4095 < s) = false := decide_eq_false (by omega)
  refine ans_go 30 1 il28_eq (Nat.le_of_ble_eq_true rfl) ?_
  (simp only [il28c, go_sem, reduceIte, Nat.reduceEqDiff, Nat.reduceAdd, Int.reduceEq, Nat.reduceLeDiff, Nat.reduceLT, Nat.reduceBEq, Nat.reduceMul, Nat.reduceSub, Int.reduceToNat, Int.reduceLE, Int.reduceLT, Int.reduceAdd, Int.reduceSub, Int.reduceMul, Int.reduceNeg, Int.reduceDiv, Int.reduceMod, Int.reduceTDiv, Int.reduceTMod, Int.reducePow, c1, d1, d2] <;> (repeat' ((first | with_reducible refine brG_intro (fun hc => ?_) (fun hc => ?_) | with_reducible refine brC_intro (fun hc => ?_) (fun hc => ?_) | ((with_reducible refine c_opsD ?_); have hc := @List.length_nil Nat) | ((with_reducible refine c_opsT ?_); have hc := @List.length_nil Nat) | ((with_reducible refine and_crit ?_ ?_); rfl; have hc := @List.length_nil Nat) | ((with_reducible refine crit_done ?_); rfl) | ((with_reducible refine mkC_go (fun _ => ?_)); have hc := @List.length_nil Nat) | ((with_reducible refine mkL_go (fun _ => ?_)); have hc := @List.length_nil Nat)) <;> (try simp only [Bool.not_eq_true', Bool.not_eq_false', Bool.not_true, Bool.not_false] at hc) <;> (try simp only [hc, go_sem, reduceIte, Nat.reduceEqDiff, Nat.reduceAdd, Int.reduceEq, Nat.reduceLeDiff, Nat.reduceLT, Nat.reduceBEq, Nat.reduceMul, Nat.reduceSub, Int.reduceToNat, Int.reduceLE, Int.reduceLT, Int.reduceAdd, Int.reduceSub, Int.reduceMul, Int.reduceNeg, Int.reduceDiv, Int.reduceMod, Int.reduceTDiv, Int.reduceTMod, Int.reducePow, c1, d1, d2]))))
  refine loop_range l encC (step := fun _ c z => .go (stp s z c)) (fin := id) (St := fun i z e h => e 0 = .t (.sl false 2 (l.map encC)) ∧ e 1 = .t (.sc (.int .i64 s)) ∧ e 8 = .t (.sc (.int .i64 z.n)) ∧ e 9 = .t (.sc (.bool z.done)) ∧ e 10 = .t (.sc (.int .i64 (i : Nat))) ∧ z.out.length ≤ 2 * i ∧ outAt z.out (e 7) h)
    (Ex := fun z x e h => x = .exit 0 ∧ e 1 = .t (.sc (.int .i64 s)) ∧ e 8 = .t (.sc (.int .i64 z.n)) ∧ e 9 = .t (.sc (.bool z.done)) ∧ outAt z.out (e 7) h) (s := ⟨[], 0, false⟩) (by omega) ?_ ?_ (by omega) ?_ ?_
  · intro i c z e h Y R hm hi hx hget hlt hw ⟨e0, e1, e8, e9, e10, hle, ho⟩ hk
    have hc2 := (chk_mem hv.2 c hm).2
    have ha := after'_ans c.2 1 hc2.1 hc2.2
    have hlen : z.out.length ≤ 24 := by omega
    have r1 : (z.out.length + 1) * 16 ≤ roomB := room16 (by omega)
    have r2 : (z.out.length + 1 + 1) * 16 ≤ roomB := room16 (by omega)
    have r3 : roomB = 140737488355328 := rfl
    simp only [ctlK_go] at hk
    have hle' : (stp s z c).out.length ≤ 2 * (i + 1) := by
      rw [stp]; split
      · simp; omega
      · split
        · simp; omega
        · simp; omega
    by_cases q1 : c.1 = s
    · have p1 : decide (c.1 = s) = true := decide_eq_true q1
      have hst : stp s z c = ⟨z.out ++ [(s, (c.2 + 1) % 65536)], c.2, true⟩ := by rw [stp, if_pos q1]
      rw [hst] at hk hle'
      obtain ⟨o2, rfl⟩ := ho
      (simp only [il28l0_go, il28l0b, go_sem, reduceIte, Nat.reduceEqDiff, Nat.reduceAdd, Int.reduceEq, Nat.reduceLeDiff, Nat.reduceLT, Nat.reduceBEq, Nat.reduceMul, Nat.reduceSub, Int.reduceToNat, Int.reduceLE, Int.reduceLT, Int.reduceAdd, Int.reduceSub, Int.reduceMul, Int.reduceNeg, Int.reduceDiv, Int.reduceMod, Int.reduceTDiv, Int.reduceTMod, Int.reducePow, e0, e1, e8, e9, e10, o2, hget, hlt, hw, encC_cells, ha, p1, rowOf_is, rowOf_es, rowOf_mr, r1, r2] <;> (repeat' ((first | with_reducible refine brG_intro (fun hc => ?_) (fun hc => ?_) | with_reducible refine brC_intro (fun hc => ?_) (fun hc => ?_) | ((with_reducible refine c_opsD ?_); have hc := @List.length_nil Nat) | ((with_reducible refine c_opsT ?_); have hc := @List.length_nil Nat) | ((with_reducible refine and_crit ?_ ?_); rfl; have hc := @List.length_nil Nat) | ((with_reducible refine crit_done ?_); rfl) | ((with_reducible refine mkC_go (fun _ => ?_)); have hc := @List.length_nil Nat) | ((with_reducible refine mkL_go (fun _ => ?_)); have hc := @List.length_nil Nat)) <;> (try simp only [Bool.not_eq_true', Bool.not_eq_false', Bool.not_true, Bool.not_false] at hc) <;> (try simp only [hc, go_sem, reduceIte, Nat.reduceEqDiff, Nat.reduceAdd, Int.reduceEq, Nat.reduceLeDiff, Nat.reduceLT, Nat.reduceBEq, Nat.reduceMul, Nat.reduceSub, Int.reduceToNat, Int.reduceLE, Int.reduceLT, Int.reduceAdd, Int.reduceSub, Int.reduceMul, Int.reduceNeg, Int.reduceDiv, Int.reduceMod, Int.reduceTDiv, Int.reduceTMod, Int.reducePow, e0, e1, e8, e9, e10, o2, hget, hlt, hw, encC_cells, ha, p1, rowOf_is, rowOf_es, rowOf_mr, r1, r2]))))
      all_goals (refine hk _ _ ⟨?_, ?_, ?_, ?_, ?_, hle', ?_⟩ <;> simp only [go_sem, reduceIte, Nat.reduceEqDiff, Nat.reduceAdd, Int.reduceEq, Nat.reduceLeDiff, Nat.reduceLT, Nat.reduceBEq, Nat.reduceMul, Nat.reduceSub, Int.reduceToNat, Int.reduceLE, Int.reduceLT, Int.reduceAdd, Int.reduceSub, Int.reduceMul, Int.reduceNeg, Int.reduceDiv, Int.reduceMod, Int.reduceTDiv, Int.reduceTMod, Int.reducePow, e0, e1, e8, e9, e10, hw, outAt, rowOf, encC, List.map_append, List.append_assoc, List.cons_append, List.nil_append, List.length_append, List.map_cons, List.map_nil, List.length_cons, List.length_nil, Nat.reduceAdd, Nat.zero_add, Nat.add_assoc, and_self])
    · have p1 : decide (c.1 = s) = false := decide_eq_false q1
      cases hd : z.done with
      | true =>
        rw [hd] at e9
        have hst : stp s z c = ⟨z.out ++ [c], z.n, true⟩ := by rw [stp, if_neg q1, if_neg (by simp [hd]), hd]
        rw [hst] at hk hle'
        obtain ⟨o2, rfl⟩ := ho
        (simp only [il28l0_go, il28l0b, go_sem, reduceIte, Nat.reduceEqDiff, Nat.reduceAdd, Int.reduceEq, Nat.reduceLeDiff, Nat.reduceLT, Nat.reduceBEq, Nat.reduceMul, Nat.reduceSub, Int.reduceToNat, Int.reduceLE, Int.reduceLT, Int.reduceAdd, Int.reduceSub, Int.reduceMul, Int.reduceNeg, Int.reduceDiv, Int.reduceMod, Int.reduceTDiv, Int.reduceTMod, Int.reducePow, e0, e1, e8, e9, e10, o2, hget, hlt, hw, encC_cells, p1, rowOf_is, rowOf_es, rowOf_mr, r1, r2] <;> (repeat' ((first | with_reducible refine brG_intro (fun hc => ?_) (fun hc => ?_) | with_reducible refine brC_intro (fun hc => ?_) (fun hc => ?_) | ((with_reducible refine c_opsD ?_); have hc := @List.length_nil Nat) | ((with_reducible refine c_opsT ?_); have hc := @List.length_nil Nat) | ((with_reducible refine and_crit ?_ ?_); rfl; have hc := @List.length_nil Nat) | ((with_reducible refine crit_done ?_); rfl) | ((with_reducible refine mkC_go (fun _ => ?_)); have hc := @List.length_nil Nat) | ((with_reducible refine mkL_go (fun _ => ?_)); have hc := @List.length_nil Nat)) <;> (try simp only [Bool.not_eq_true', Bool.not_eq_false', Bool.not_true, Bool.not_false] at hc) <;> (try simp only [hc, go_sem, reduceIte, Nat.reduceEqDiff, Nat.reduceAdd, Int.reduceEq, Nat.reduceLeDiff, Nat.reduceLT, Nat.reduceBEq, Nat.reduceMul, Nat.reduceSub, Int.reduceToNat, Int.reduceLE, Int.reduceLT, Int.reduceAdd, Int.reduceSub, Int.reduceMul, Int.reduceNeg, Int.reduceDiv, Int.reduceMod, Int.reduceTDiv, Int.reduceTMod, Int.reducePow, e0, e1, e8, e9, e10, o2, hget, hlt, hw, encC_cells, p1, rowOf_is, rowOf_es, rowOf_mr, r1, r2]))))
        all_goals (refine hk _ _ ⟨?_, ?_, ?_, ?_, ?_, hle', ?_⟩ <;> simp only [go_sem, reduceIte, Nat.reduceEqDiff, Nat.reduceAdd, Int.reduceEq, Nat.reduceLeDiff, Nat.reduceLT, Nat.reduceBEq, Nat.reduceMul, Nat.reduceSub, Int.reduceToNat, Int.reduceLE, Int.reduceLT, Int.reduceAdd, Int.reduceSub, Int.reduceMul, Int.reduceNeg, Int.reduceDiv, Int.reduceMod, Int.reduceTDiv, Int.reduceTMod, Int.reducePow, e0, e1, e8, e9, e10, hw, outAt, rowOf, encC, List.map_append, List.append_assoc, List.cons_append, List.nil_append, List.length_append, List.map_cons, List.map_nil, List.length_cons, List.length_nil, Nat.reduceAdd, Nat.zero_add, Nat.add_assoc, and_self])
      | false =>
        rw [hd] at e9
        by_cases q2 : s < c.1
        · have p2 : decide (s < c.1) = true := decide_eq_true q2
          have hst : stp s z c = ⟨z.out ++ [(s, 1)] ++ [c], z.n, true⟩ := by rw [stp, if_neg q1, if_pos ⟨hd, q2⟩]
          rw [hst] at hk hle'
          obtain ⟨o2, rfl⟩ := ho
          (simp only [il28l0_go, il28l0b, go_sem, reduceIte, Nat.reduceEqDiff, Nat.reduceAdd, Int.reduceEq, Nat.reduceLeDiff, Nat.reduceLT, Nat.reduceBEq, Nat.reduceMul, Nat.reduceSub, Int.reduceToNat, Int.reduceLE, Int.reduceLT, Int.reduceAdd, Int.reduceSub, Int.reduceMul, Int.reduceNeg, Int.reduceDiv, Int.reduceMod, Int.reduceTDiv, Int.reduceTMod, Int.reducePow, e0, e1, e8, e9, e10, o2, hget, hlt, hw, encC_cells, p1, p2, rowOf_is, rowOf_es, rowOf_mr, r1, r2] <;> (repeat' ((first | with_reducible refine brG_intro (fun hc => ?_) (fun hc => ?_) | with_reducible refine brC_intro (fun hc => ?_) (fun hc => ?_) | ((with_reducible refine c_opsD ?_); have hc := @List.length_nil Nat) | ((with_reducible refine c_opsT ?_); have hc := @List.length_nil Nat) | ((with_reducible refine and_crit ?_ ?_); rfl; have hc := @List.length_nil Nat) | ((with_reducible refine crit_done ?_); rfl) | ((with_reducible refine mkC_go (fun _ => ?_)); have hc := @List.length_nil Nat) | ((with_reducible refine mkL_go (fun _ => ?_)); have hc := @List.length_nil Nat)) <;> (try simp only [Bool.not_eq_true', Bool.not_eq_false', Bool.not_true, Bool.not_false] at hc) <;> (try simp only [hc, go_sem, reduceIte, Nat.reduceEqDiff, Nat.reduceAdd, Int.reduceEq, Nat.reduceLeDiff, Nat.reduceLT, Nat.reduceBEq, Nat.reduceMul, Nat.reduceSub, Int.reduceToNat, Int.reduceLE, Int.reduceLT, Int.reduceAdd, Int.reduceSub, Int.reduceMul, Int.reduceNeg, Int.reduceDiv, Int.reduceMod, Int.reduceTDiv, Int.reduceTMod, Int.reducePow, e0, e1, e8, e9, e10, o2, hget, hlt, hw, encC_cells, p1, p2, rowOf_is, rowOf_es, rowOf_mr, r1, r2]))))
          all_goals (refine hk _ _ ⟨?_, ?_, ?_, ?_, ?_, hle', ?_⟩ <;> simp only [go_sem, reduceIte, Nat.reduceEqDiff, Nat.reduceAdd, Int.reduceEq, Nat.reduceLeDiff, Nat.reduceLT, Nat.reduceBEq, Nat.reduceMul, Nat.reduceSub, Int.reduceToNat, Int.reduceLE, Int.reduceLT, Int.reduceAdd, Int.reduceSub, Int.reduceMul, Int.reduceNeg, Int.reduceDiv, Int.reduceMod, Int.reduceTDiv, Int.reduceTMod, Int.reducePow, e0, e1, e8, e9, e10, hw, outAt, rowOf, encC, List.map_append, List.append_assoc, List.cons_append, List.nil_append, List.length_append, List.map_cons, List.map_nil, List.length_cons, List.length_nil, Nat.reduceAdd, Nat.zero_add, Nat.add_assoc, and_self])
        · have p2 : decide (s < c.1) = false := decide_eq_false q2
          have hst : stp s z c = ⟨z.out ++ [c], z.n, false⟩ := by rw [stp, if_neg q1, if_neg (fun h => q2 h.2), hd]
          rw [hst] at hk hle'
          obtain ⟨o2, rfl⟩ := ho
          (simp only [il28l0_go, il28l0b, go_sem, reduceIte, Nat.reduceEqDiff, Nat.reduceAdd, Int.reduceEq, Nat.reduceLeDiff, Nat.reduceLT, Nat.reduceBEq, Nat.reduceMul, Nat.reduceSub, Int.reduceToNat, Int.reduceLE, Int.reduceLT, Int.reduceAdd, Int.reduceSub, Int.reduceMul, Int.reduceNeg, Int.reduceDiv, Int.reduceMod, Int.reduceTDiv, Int.reduceTMod, Int.reducePow, e0, e1, e8, e9, e10, o2, hget, hlt, hw, encC_cells, p1, p2, rowOf_is, rowOf_es, rowOf_mr, r1, r2] <;> (repeat' ((first | with_reducible refine brG_intro (fun hc => ?_) (fun hc => ?_) | with_reducible refine brC_intro (fun hc => ?_) (fun hc => ?_) | ((with_reducible refine c_opsD ?_); have hc := @List.length_nil Nat) | ((with_reducible refine c_opsT ?_); have hc := @List.length_nil Nat) | ((with_reducible refine and_crit ?_ ?_); rfl; have hc := @List.length_nil Nat) | ((with_reducible refine crit_done ?_); rfl) | ((with_reducible refine mkC_go (fun _ => ?_)); have hc := @List.length_nil Nat) | ((with_reducible refine mkL_go (fun _ => ?_)); have hc := @List.length_nil Nat)) <;> (try simp only [Bool.not_eq_true', Bool.not_eq_false', Bool.not_true, Bool.not_false] at hc) <;> (try simp only [hc, go_sem, reduceIte, Nat.reduceEqDiff, Nat.reduceAdd, Int.reduceEq, Nat.reduceLeDiff, Nat.reduceLT, Nat.reduceBEq, Nat.reduceMul, Nat.reduceSub, Int.reduceToNat, Int.reduceLE, Int.reduceLT, Int.reduceAdd, Int.reduceSub, Int.reduceMul, Int.reduceNeg, Int.reduceDiv, Int.reduceMod, Int.reduceTDiv, Int.reduceTMod, Int.reducePow, e0, e1, e8, e9, e10, o2, hget, hlt, hw, encC_cells, p1, p2, rowOf_is, rowOf_es, rowOf_mr, r1, r2]))))
          all_goals (refine hk _ _ ⟨?_, ?_, ?_, ?_, ?_, hle', ?_⟩ <;> simp only [go_sem, reduceIte, Nat.reduceEqDiff, Nat.reduceAdd, Int.reduceEq, Nat.reduceLeDiff, Nat.reduceLT, Nat.reduceBEq, Nat.reduceMul, Nat.reduceSub, Int.reduceToNat, Int.reduceLE, Int.reduceLT, Int.reduceAdd, Int.reduceSub, Int.reduceMul, Int.reduceNeg, Int.reduceDiv, Int.reduceMod, Int.reduceTDiv, Int.reduceTMod, Int.reducePow, e0, e1, e8, e9, e10, hw, outAt, rowOf, encC, List.map_append, List.append_assoc, List.cons_append, List.nil_append, List.length_append, List.map_cons, List.map_nil, List.length_cons, List.length_nil, Nat.reduceAdd, Nat.zero_add, Nat.add_assoc, and_self])
  · intro z e h Y R hlt ⟨e0, e1, e8, e9, e10, hle, ho⟩ hk
    (simp only [il28l0_go, il28l0b, go_sem, reduceIte, Nat.reduceEqDiff, Nat.reduceAdd, Int.reduceEq, Nat.reduceLeDiff, Nat.reduceLT, Nat.reduceBEq, Nat.reduceMul, Nat.reduceSub, Int.reduceToNat, Int.reduceLE, Int.reduceLT, Int.reduceAdd, Int.reduceSub, Int.reduceMul, Int.reduceNeg, Int.reduceDiv, Int.reduceMod, Int.reduceTDiv, Int.reduceTMod, Int.reducePow, e0, e10, hlt] <;> (repeat' ((first | with_reducible refine brG_intro (fun hc => ?_) (fun hc => ?_) | with_reducible refine brC_intro (fun hc => ?_) (fun hc => ?_) | ((with_reducible refine c_opsD ?_); have hc := @List.length_nil Nat) | ((with_reducible refine c_opsT ?_); have hc := @List.length_nil Nat) | ((with_reducible refine and_crit ?_ ?_); rfl; have hc := @List.length_nil Nat) | ((with_reducible refine crit_done ?_); rfl) | ((with_reducible refine mkC_go (fun _ => ?_)); have hc := @List.length_nil Nat) | ((with_reducible refine mkL_go (fun _ => ?_)); have hc := @List.length_nil Nat)) <;> (try simp only [Bool.not_eq_true', Bool.not_eq_false', Bool.not_true, Bool.not_false] at hc) <;> (try simp only [hc, go_sem, reduceIte, Nat.reduceEqDiff, Nat.reduceAdd, Int.reduceEq, Nat.reduceLeDiff, Nat.reduceLT, Nat.reduceBEq, Nat.reduceMul, Nat.reduceSub, Int.reduceToNat, Int.reduceLE, Int.reduceLT, Int.reduceAdd, Int.reduceSub, Int.reduceMul, Int.reduceNeg, Int.reduceDiv, Int.reduceMod, Int.reduceTDiv, Int.reduceTMod, Int.reducePow, e0, e10, hlt]))))
    all_goals (refine hk _ _ _ ⟨?_, ?_, ?_, ?_, ?_⟩ <;> simp only [go_sem, reduceIte, Nat.reduceEqDiff, Nat.reduceAdd, Int.reduceEq, Nat.reduceLeDiff, Nat.reduceLT, Nat.reduceBEq, Nat.reduceMul, Nat.reduceSub, Int.reduceToNat, Int.reduceLE, Int.reduceLT, Int.reduceAdd, Int.reduceSub, Int.reduceMul, Int.reduceNeg, Int.reduceDiv, Int.reduceMod, Int.reduceTDiv, Int.reduceTMod, Int.reducePow, e1, e8, e9, id])
    all_goals exact ho
  · refine ⟨?_, ?_, ?_, ?_, ?_, ?_, ?_, ?_⟩ <;> simp only [go_sem, reduceIte, Nat.reduceEqDiff, Nat.reduceAdd, Int.reduceEq, Nat.reduceLeDiff, Nat.reduceLT, Nat.reduceBEq, Nat.reduceMul, Nat.reduceSub, Int.reduceToNat, Int.reduceLE, Int.reduceLT, Int.reduceAdd, Int.reduceSub, Int.reduceMul, Int.reduceNeg, Int.reduceDiv, Int.reduceMod, Int.reduceTDiv, Int.reduceTMod, Int.reducePow]
    all_goals simp [rowOf]
  · intro x e h ⟨hx, e1, e8, e9, ho⟩
    rw [foldC_foldl] at e8 e9 ho
    subst hx
    have hn := nxt_fold l s hv hs
    have hlen := fold_len s l ⟨[], 0, false⟩
    rw [hn]
    clear hn c1
    generalize l.foldl (stp s) ⟨[], 0, false⟩ = z at e8 e9 ho hlen
    obtain ⟨O, N, D⟩ := z
    simp only [id] at e8 e9 ho
    simp only [List.length_nil] at hlen
    obtain ⟨o2, rfl⟩ := ho
    have r1 : (O.length + 1) * 16 ≤ roomB := room16 (by omega)
    cases D with
    | true =>
      by_cases h12 : 12 < O.length
      · have d3 : decide ((12 : Int) < (O.length : Nat)) = true := decide_eq_true (by omega)
        (simp only [il28c, go_sem, reduceIte, Nat.reduceEqDiff, Nat.reduceAdd, Int.reduceEq, Nat.reduceLeDiff, Nat.reduceLT, Nat.reduceBEq, Nat.reduceMul, Nat.reduceSub, Int.reduceToNat, Int.reduceLE, Int.reduceLT, Int.reduceAdd, Int.reduceSub, Int.reduceMul, Int.reduceNeg, Int.reduceDiv, Int.reduceMod, Int.reduceTDiv, Int.reduceTMod, Int.reducePow, e1, e8, e9, o2, d3, rowOf_is, rowOf_es, rowOf_mr, r1] <;> (repeat' ((first | with_reducible refine brG_intro (fun hc => ?_) (fun hc => ?_) | with_reducible refine brC_intro (fun hc => ?_) (fun hc => ?_) | ((with_reducible refine c_opsD ?_); have hc := @List.length_nil Nat) | ((with_reducible refine c_opsT ?_); have hc := @List.length_nil Nat) | ((with_reducible refine and_crit ?_ ?_); rfl; have hc := @List.length_nil Nat) | ((with_reducible refine crit_done ?_); rfl) | ((with_reducible refine mkC_go (fun _ => ?_)); have hc := @List.length_nil Nat) | ((with_reducible refine mkL_go (fun _ => ?_)); have hc := @List.length_nil Nat)) <;> (try simp only [Bool.not_eq_true', Bool.not_eq_false', Bool.not_true, Bool.not_false] at hc) <;> (try simp only [hc, go_sem, reduceIte, Nat.reduceEqDiff, Nat.reduceAdd, Int.reduceEq, Nat.reduceLeDiff, Nat.reduceLT, Nat.reduceBEq, Nat.reduceMul, Nat.reduceSub, Int.reduceToNat, Int.reduceLE, Int.reduceLT, Int.reduceAdd, Int.reduceSub, Int.reduceMul, Int.reduceNeg, Int.reduceDiv, Int.reduceMod, Int.reduceTDiv, Int.reduceTMod, Int.reducePow, e1, e8, e9, o2, d3, rowOf_is, rowOf_es, rowOf_mr, r1]))))
        all_goals simp [finN, h12, err3]
      · have d3 : decide ((12 : Int) < (O.length : Nat)) = false := decide_eq_false (by omega)
        (simp only [il28c, go_sem, reduceIte, Nat.reduceEqDiff, Nat.reduceAdd, Int.reduceEq, Nat.reduceLeDiff, Nat.reduceLT, Nat.reduceBEq, Nat.reduceMul, Nat.reduceSub, Int.reduceToNat, Int.reduceLE, Int.reduceLT, Int.reduceAdd, Int.reduceSub, Int.reduceMul, Int.reduceNeg, Int.reduceDiv, Int.reduceMod, Int.reduceTDiv, Int.reduceTMod, Int.reducePow, e1, e8, e9, o2, d3, rowOf_is, rowOf_es, rowOf_mr, r1] <;> (repeat' ((first | with_reducible refine brG_intro (fun hc => ?_) (fun hc => ?_) | with_reducible refine brC_intro (fun hc => ?_) (fun hc => ?_) | ((with_reducible refine c_opsD ?_); have hc := @List.length_nil Nat) | ((with_reducible refine c_opsT ?_); have hc := @List.length_nil Nat) | ((with_reducible refine and_crit ?_ ?_); rfl; have hc := @List.length_nil Nat) | ((with_reducible refine crit_done ?_); rfl) | ((with_reducible refine mkC_go (fun _ => ?_)); have hc := @List.length_nil Nat) | ((with_reducible refine mkL_go (fun _ => ?_)); have hc := @List.length_nil Nat)) <;> (try simp only [Bool.not_eq_true', Bool.not_eq_false', Bool.not_true, Bool.not_false] at hc) <;> (try simp only [hc, go_sem, reduceIte, Nat.reduceEqDiff, Nat.reduceAdd, Int.reduceEq, Nat.reduceLeDiff, Nat.reduceLT, Nat.reduceBEq, Nat.reduceMul, Nat.reduceSub, Int.reduceToNat, Int.reduceLE, Int.reduceLT, Int.reduceAdd, Int.reduceSub, Int.reduceMul, Int.reduceNeg, Int.reduceDiv, Int.reduceMod, Int.reduceTDiv, Int.reduceTMod, Int.reducePow, e1, e8, e9, o2, d3, rowOf_is, rowOf_es, rowOf_mr, r1]))))
        all_goals simp [finN, h12, lst, rowOf]
    | false =>
      by_cases h12 : 12 < O.length + 1
      · have d3 : decide ((12 : Int) < ((O.length + 1 : Nat) : Int)) = true := decide_eq_true (by omega)
        (simp only [il28c, go_sem, reduceIte, Nat.reduceEqDiff, Nat.reduceAdd, Int.reduceEq, Nat.reduceLeDiff, Nat.reduceLT, Nat.reduceBEq, Nat.reduceMul, Nat.reduceSub, Int.reduceToNat, Int.reduceLE, Int.reduceLT, Int.reduceAdd, Int.reduceSub, Int.reduceMul, Int.reduceNeg, Int.reduceDiv, Int.reduceMod, Int.reduceTDiv, Int.reduceTMod, Int.reducePow, e1, e8, e9, o2, d3, rowOf_is, rowOf_es, rowOf_mr, r1] <;> (repeat' ((first | with_reducible refine brG_intro (fun hc => ?_) (fun hc => ?_) | with_reducible refine brC_intro (fun hc => ?_) (fun hc => ?_) | ((with_reducible refine c_opsD ?_); have hc := @List.length_nil Nat) | ((with_reducible refine c_opsT ?_); have hc := @List.length_nil Nat) | ((with_reducible refine and_crit ?_ ?_); rfl; have hc := @List.length_nil Nat) | ((with_reducible refine crit_done ?_); rfl) | ((with_reducible refine mkC_go (fun _ => ?_)); have hc := @List.length_nil Nat) | ((with_reducible refine mkL_go (fun _ => ?_)); have hc := @List.length_nil Nat)) <;> (try simp only [Bool.not_eq_true', Bool.not_eq_false', Bool.not_true, Bool.not_false] at hc) <;> (try simp only [hc, go_sem, reduceIte, Nat.reduceEqDiff, Nat.reduceAdd, Int.reduceEq, Nat.reduceLeDiff, Nat.reduceLT, Nat.reduceBEq, Nat.reduceMul, Nat.reduceSub, Int.reduceToNat, Int.reduceLE, Int.reduceLT, Int.reduceAdd, Int.reduceSub, Int.reduceMul, Int.reduceNeg, Int.reduceDiv, Int.reduceMod, Int.reduceTDiv, Int.reduceTMod, Int.reducePow, e1, e8, e9, o2, d3, rowOf_is, rowOf_es, rowOf_mr, r1]))))
        all_goals simp [finN, h12, err3]
      · have d3 : decide ((12 : Int) < ((O.length + 1 : Nat) : Int)) = false := decide_eq_false (by omega)
        (simp only [il28c, go_sem, reduceIte, Nat.reduceEqDiff, Nat.reduceAdd, Int.reduceEq, Nat.reduceLeDiff, Nat.reduceLT, Nat.reduceBEq, Nat.reduceMul, Nat.reduceSub, Int.reduceToNat, Int.reduceLE, Int.reduceLT, Int.reduceAdd, Int.reduceSub, Int.reduceMul, Int.reduceNeg, Int.reduceDiv, Int.reduceMod, Int.reduceTDiv, Int.reduceTMod, Int.reducePow, e1, e8, e9, o2, d3, rowOf_is, rowOf_es, rowOf_mr, r1] <;> (repeat' ((first | with_reducible refine brG_intro (fun hc => ?_) (fun hc => ?_) | with_reducible refine brC_intro (fun hc => ?_) (fun hc => ?_) | ((with_reducible refine c_opsD ?_); have hc := @List.length_nil Nat) | ((with_reducible refine c_opsT ?_); have hc := @List.length_nil Nat) | ((with_reducible refine and_crit ?_ ?_); rfl; have hc := @List.length_nil Nat) | ((with_reducible refine crit_done ?_); rfl) | ((with_reducible refine mkC_go (fun _ => ?_)); have hc := @List.length_nil Nat) | ((with_reducible refine mkL_go (fun _ => ?_)); have hc := @List.length_nil Nat)) <;> (try simp only [Bool.not_eq_true', Bool.not_eq_false', Bool.not_true, Bool.not_false] at hc) <;> (try simp only [hc, go_sem, reduceIte, Nat.reduceEqDiff, Nat.reduceAdd, Int.reduceEq, Nat.reduceLeDiff, Nat.reduceLT, Nat.reduceBEq, Nat.reduceMul, Nat.reduceSub, Int.reduceToNat, Int.reduceLE, Int.reduceLT, Int.reduceAdd, Int.reduceSub, Int.reduceMul, Int.reduceNeg, Int.reduceDiv, Int.reduceMod, Int.reduceTDiv, Int.reduceTMod, Int.reducePow, e1, e8, e9, o2, d3, rowOf_is, rowOf_es, rowOf_mr, r1]))))
        all_goals simp [finN, h12, lst, rowOf, encC]

end Go.Proofs.Ytkamfflnfnjbeaa
