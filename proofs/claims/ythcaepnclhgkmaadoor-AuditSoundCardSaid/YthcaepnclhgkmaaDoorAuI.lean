/- Audit: what package audit answers. -/
import Derived.Test.YthcaepnclhgkmaaDoorAuH
namespace Go.Proofs.YthcaepnclhgkmaaDoor
open Go Go.Abs
set_option linter.unusedSimpArgs false
set_option linter.unusedVariables false
set_option maxRecDepth 100000
set_option maxHeartbeats 8000000

theorem chkR_pre : ∀ {p : List Ru} {b : Int} {r : Ru} {q : List Ru}, chkR b (p ++ r :: q) = true → b < r.s ∧ ruleOf p r.s = none := by
  intro p
  induction p with
  | nil =>
    intro b r q h
    simp only [List.nil_append, chkR, Bool.and_eq_true, decide_eq_true_eq] at h
    exact ⟨h.1.1.1, rfl⟩
  | cons x p ih =>
    intro b r q h
    simp only [List.cons_append, chkR, Bool.and_eq_true, decide_eq_true_eq] at h
    obtain ⟨h1, h2⟩ := h
    obtain ⟨h3, h4⟩ := ih h2
    have := h1.1.1
    exact ⟨by omega, by rw [ruleOf, if_neg (by omega)]; exact h4⟩
theorem chkR_mem : ∀ {l : List Ru} {b : Int}, chkR b l = true → ∀ r ∈ l, 0 ≤ r.le ∧ r.le ≤ r.mo ∧ r.mo ≤ 1099511627776 := by
  intro l
  induction l with
  | nil => intro b _ r hr; cases hr
  | cons x l ih =>
    intro b h r hr
    simp only [chkR, Bool.and_eq_true, decide_eq_true_eq] at h
    cases hr with
    | head => exact ⟨h.1.2.1.1, h.1.2.1.2, h.1.2.2⟩
    | tail _ hr => exact ih h.2 r hr
theorem ruleOf_mem : ∀ {l : List Ru} {s : Int} {r : Ru}, ruleOf l s = some r → r ∈ l ∧ r.s = s := by
  intro l
  induction l with
  | nil => intro s r h; simp [ruleOf] at h
  | cons x l ih =>
    intro s r h
    rw [ruleOf] at h
    split at h
    · rename_i q; simp only [Option.some.injEq] at h; subst h; exact ⟨by simp, q⟩
    · obtain ⟨h1, h2⟩ := ih h; exact ⟨by simp [h1], h2⟩
theorem ruleD_mo {l : List Ru} {b : Int} (h : chkR b l = true) (s : Int) : 0 ≤ (ruleD l s).mo ∧ (ruleD l s).mo ≤ 1099511627776 := by
  unfold ruleD
  cases hr : ruleOf l s with
  | none => exact ⟨by decide, by decide⟩
  | some r =>
    have := chkR_mem h r (ruleOf_mem hr).1
    exact ⟨by show 0 ≤ r.mo; omega, this.2.2⟩
theorem chkN_ok : ∀ {l : List Nt} {b : Int}, 0 ≤ b → chkN b l = true → okL l := by
  intro l
  induction l with
  | nil => intro b _ _ x hx; cases hx
  | cons x l ih =>
    intro b hb h y hy
    simp only [chkN, Bool.and_eq_true, decide_eq_true_eq] at h
    obtain ⟨⟨h1, h2, h3, h4⟩, h5⟩ := h
    cases hy with
    | head => exact ⟨h1, by omega, h4.2⟩
    | tail _ hy => exact ih (by omega) h5 y hy

theorem pr_ne {rs : List Ru} : ∀ (l : List Nt) (i : Nat) (z : Fates × List (Int × Int)) {k : Int} {j : Nat} {x : Nt}, foldC (prStep rs) Sum.inr i l z = .inl (k, j, x) → k ≠ 0 := by
  intro l
  induction l with
  | nil => intro i z k j x h; simp [foldC] at h
  | cons y l ih =>
    intro i z k j x h
    by_cases q : pk rs z.1 z.2 y = 0
    · rw [foldC_go (s' := (lrnF i y z.1, lrnW y z.1 z.2)) (by simp [prStep, q])] at h
      exact ih _ _ h
    · rw [foldC_out (r := .inl (pk rs z.1 z.2 y, i, y)) (by simp [prStep, q])] at h
      simp only [Sum.inl.injEq, Prod.mk.injEq] at h
      rw [← h.1]; exact q

def audT (rs : List Ru) (log : List Nt) (end_ : Int) : T :=
  match progR rs log with
  | .inl (k, i, x) => .agg [J k, J (i : Nat), J x.s, J x.q]
  | .inr (F, _) => lostT (lostR rs F end_ log)
def lastT (log : List Nt) : Int := match log.getLast? with | some x => x.t | none => 0
def badE (log : List Nt) (end_ : Int) : Prop := end_ < 0 ∨ 1099511627776 < end_ ∨ end_ < lastT log

theorem audit_bad1 (cl cl' : Bool) (rs : List Ru) (log : List Nt) (end_ : Int) (h : ¬ (rs.length ≤ 12 ∧ chkR 0 rs = true)) : ans Tryd.prog pol 12 [.sl cl 4 (rs.map encR), .sl cl' 4 (log.map encN), J end_] = some (.tup [z4, J 541]) := by
  have c1 := check_ans cl rs
  rw [if_neg h] at c1
  simp only [z4]
  refine ans_go 1 1 il12_eq (Nat.le_of_ble_eq_true rfl) ?_
  (simp only [il12c, go_sem, reduceIte, Nat.reduceEqDiff, Nat.reduceAdd, Int.reduceEq, Nat.reduceLeDiff, Nat.reduceLT, Nat.reduceBEq, Nat.reduceMul, Nat.reduceSub, Int.reduceToNat, Int.reduceLE, Int.reduceLT, Int.reduceAdd, Int.reduceSub, Int.reduceMul, Int.reduceNeg, Int.reduceDiv, Int.reduceMod, Int.reduceTDiv, Int.reduceTMod, Int.reducePow, c1] <;> (repeat' ((first | with_reducible refine brG_intro (fun hc => ?_) (fun hc => ?_) | with_reducible refine brC_intro (fun hc => ?_) (fun hc => ?_) | ((with_reducible refine c_opsD ?_); have hc := @List.length_nil Nat) | ((with_reducible refine c_opsT ?_); have hc := @List.length_nil Nat) | ((with_reducible refine and_crit ?_ ?_); rfl; have hc := @List.length_nil Nat) | ((with_reducible refine crit_done ?_); rfl) | ((with_reducible refine mkC_go (fun _ => ?_)); have hc := @List.length_nil Nat) | ((with_reducible refine mkL_go (fun _ => ?_)); have hc := @List.length_nil Nat)) <;> (try simp only [Bool.not_eq_true', Bool.not_eq_false', Bool.not_true, Bool.not_false] at hc) <;> (try simp only [hc, go_sem, reduceIte, Nat.reduceEqDiff, Nat.reduceAdd, Int.reduceEq, Nat.reduceLeDiff, Nat.reduceLT, Nat.reduceBEq, Nat.reduceMul, Nat.reduceSub, Int.reduceToNat, Int.reduceLE, Int.reduceLT, Int.reduceAdd, Int.reduceSub, Int.reduceMul, Int.reduceNeg, Int.reduceDiv, Int.reduceMod, Int.reduceTDiv, Int.reduceTMod, Int.reducePow, c1]))))

theorem audit_bad2 (cl cl' : Bool) (rs : List Ru) (log : List Nt) (end_ : Int) (h1 : rs.length ≤ 12 ∧ chkR 0 rs = true) (h : ¬ (log.length ≤ 4096 ∧ chkN 0 log = true)) : ans Tryd.prog pol 12 [.sl cl 4 (rs.map encR), .sl cl' 4 (log.map encN), J end_] = some (.tup [z4, J 540]) := by
  have c1 := check_ans cl rs
  rw [if_pos h1] at c1
  have c2 := checkN_ans cl' log
  rw [if_neg h] at c2
  simp only [z4]
  refine ans_go 1 1 il12_eq (Nat.le_of_ble_eq_true rfl) ?_
  (simp only [il12c, go_sem, reduceIte, Nat.reduceEqDiff, Nat.reduceAdd, Int.reduceEq, Nat.reduceLeDiff, Nat.reduceLT, Nat.reduceBEq, Nat.reduceMul, Nat.reduceSub, Int.reduceToNat, Int.reduceLE, Int.reduceLT, Int.reduceAdd, Int.reduceSub, Int.reduceMul, Int.reduceNeg, Int.reduceDiv, Int.reduceMod, Int.reduceTDiv, Int.reduceTMod, Int.reducePow, c1, c2] <;> (repeat' ((first | with_reducible refine brG_intro (fun hc => ?_) (fun hc => ?_) | with_reducible refine brC_intro (fun hc => ?_) (fun hc => ?_) | ((with_reducible refine c_opsD ?_); have hc := @List.length_nil Nat) | ((with_reducible refine c_opsT ?_); have hc := @List.length_nil Nat) | ((with_reducible refine and_crit ?_ ?_); rfl; have hc := @List.length_nil Nat) | ((with_reducible refine crit_done ?_); rfl) | ((with_reducible refine mkC_go (fun _ => ?_)); have hc := @List.length_nil Nat) | ((with_reducible refine mkL_go (fun _ => ?_)); have hc := @List.length_nil Nat)) <;> (try simp only [Bool.not_eq_true', Bool.not_eq_false', Bool.not_true, Bool.not_false] at hc) <;> (try simp only [hc, go_sem, reduceIte, Nat.reduceEqDiff, Nat.reduceAdd, Int.reduceEq, Nat.reduceLeDiff, Nat.reduceLT, Nat.reduceBEq, Nat.reduceMul, Nat.reduceSub, Int.reduceToNat, Int.reduceLE, Int.reduceLT, Int.reduceAdd, Int.reduceSub, Int.reduceMul, Int.reduceNeg, Int.reduceDiv, Int.reduceMod, Int.reduceTDiv, Int.reduceTMod, Int.reducePow, c1, c2]))))

theorem audit_bad3 (cl cl' : Bool) (rs : List Ru) (log : List Nt) (end_ : Int) (h1 : rs.length ≤ 12 ∧ chkR 0 rs = true) (h2 : log.length ≤ 4096 ∧ chkN 0 log = true) (h : badE log end_) : ans Tryd.prog pol 12 [.sl cl 4 (rs.map encR), .sl cl' 4 (log.map encN), J end_] = some (.tup [z4, J 2]) := by
  have c1 := check_ans cl rs
  rw [if_pos h1] at c1
  have c2 := checkN_ans cl' log
  rw [if_pos h2] at c2
  simp only [z4]
  refine ans_go 1 1 il12_eq (Nat.le_of_ble_eq_true rfl) ?_
  by_cases g1 : end_ < 0
  · have d1 : decide (end_ < 0) = true := decide_eq_true g1
    (simp only [il12c, go_sem, reduceIte, Nat.reduceEqDiff, Nat.reduceAdd, Int.reduceEq, Nat.reduceLeDiff, Nat.reduceLT, Nat.reduceBEq, Nat.reduceMul, Nat.reduceSub, Int.reduceToNat, Int.reduceLE, Int.reduceLT, Int.reduceAdd, Int.reduceSub, Int.reduceMul, Int.reduceNeg, Int.reduceDiv, Int.reduceMod, Int.reduceTDiv, Int.reduceTMod, Int.reducePow, c1, c2, d1] <;> (repeat' ((first | with_reducible refine brG_intro (fun hc => ?_) (fun hc => ?_) | with_reducible refine brC_intro (fun hc => ?_) (fun hc => ?_) | ((with_reducible refine c_opsD ?_); have hc := @List.length_nil Nat) | ((with_reducible refine c_opsT ?_); have hc := @List.length_nil Nat) | ((with_reducible refine and_crit ?_ ?_); rfl; have hc := @List.length_nil Nat) | ((with_reducible refine crit_done ?_); rfl) | ((with_reducible refine mkC_go (fun _ => ?_)); have hc := @List.length_nil Nat) | ((with_reducible refine mkL_go (fun _ => ?_)); have hc := @List.length_nil Nat)) <;> (try simp only [Bool.not_eq_true', Bool.not_eq_false', Bool.not_true, Bool.not_false] at hc) <;> (try simp only [hc, go_sem, reduceIte, Nat.reduceEqDiff, Nat.reduceAdd, Int.reduceEq, Nat.reduceLeDiff, Nat.reduceLT, Nat.reduceBEq, Nat.reduceMul, Nat.reduceSub, Int.reduceToNat, Int.reduceLE, Int.reduceLT, Int.reduceAdd, Int.reduceSub, Int.reduceMul, Int.reduceNeg, Int.reduceDiv, Int.reduceMod, Int.reduceTDiv, Int.reduceTMod, Int.reducePow, c1, c2, d1]))))
  · have d1 : decide (end_ < 0) = false := decide_eq_false g1
    by_cases g2 : 1099511627776 < end_
    · have d2 : decide (1099511627776 < end_) = true := decide_eq_true g2
      (simp only [il12c, go_sem, reduceIte, Nat.reduceEqDiff, Nat.reduceAdd, Int.reduceEq, Nat.reduceLeDiff, Nat.reduceLT, Nat.reduceBEq, Nat.reduceMul, Nat.reduceSub, Int.reduceToNat, Int.reduceLE, Int.reduceLT, Int.reduceAdd, Int.reduceSub, Int.reduceMul, Int.reduceNeg, Int.reduceDiv, Int.reduceMod, Int.reduceTDiv, Int.reduceTMod, Int.reducePow, c1, c2, d1, d2] <;> (repeat' ((first | with_reducible refine brG_intro (fun hc => ?_) (fun hc => ?_) | with_reducible refine brC_intro (fun hc => ?_) (fun hc => ?_) | ((with_reducible refine c_opsD ?_); have hc := @List.length_nil Nat) | ((with_reducible refine c_opsT ?_); have hc := @List.length_nil Nat) | ((with_reducible refine and_crit ?_ ?_); rfl; have hc := @List.length_nil Nat) | ((with_reducible refine crit_done ?_); rfl) | ((with_reducible refine mkC_go (fun _ => ?_)); have hc := @List.length_nil Nat) | ((with_reducible refine mkL_go (fun _ => ?_)); have hc := @List.length_nil Nat)) <;> (try simp only [Bool.not_eq_true', Bool.not_eq_false', Bool.not_true, Bool.not_false] at hc) <;> (try simp only [hc, go_sem, reduceIte, Nat.reduceEqDiff, Nat.reduceAdd, Int.reduceEq, Nat.reduceLeDiff, Nat.reduceLT, Nat.reduceBEq, Nat.reduceMul, Nat.reduceSub, Int.reduceToNat, Int.reduceLE, Int.reduceLT, Int.reduceAdd, Int.reduceSub, Int.reduceMul, Int.reduceNeg, Int.reduceDiv, Int.reduceMod, Int.reduceTDiv, Int.reduceTMod, Int.reducePow, c1, c2, d1, d2]))))
    · have d2 : decide (1099511627776 < end_) = false := decide_eq_false g2
      have g3 : end_ < lastT log := by rcases h with h | h | h <;> first | exact absurd h (by assumption) | exact h
      unfold lastT at g3
      cases hl : log.getLast? with
      | none => rw [hl] at g3; exact absurd g3 g1
      | some y =>
        rw [hl] at g3
        have hlen : 0 < log.length := by
          cases log with
          | nil => simp at hl
          | cons a l => simp
        have d3 : decide ((0 : Int) < ((log.length : Nat) : Int)) = true := decide_eq_true (by omega)
        have w0 : IntKind.i64.wrap (((log.length : Nat) : Int) - 1) = ((log.length - 1 : Nat) : Int) := by rw [wrap_i64 (by omega) (by omega)]; omega
        have hg : (log.map encN)[log.length - 1]? = some (encN y) := by
          rw [List.getElem?_map, ← List.getLast?_eq_getElem?, hl]; rfl
        have d4 : decide (end_ < y.t) = true := decide_eq_true g3
        (simp only [il12c, go_sem, reduceIte, Nat.reduceEqDiff, Nat.reduceAdd, Int.reduceEq, Nat.reduceLeDiff, Nat.reduceLT, Nat.reduceBEq, Nat.reduceMul, Nat.reduceSub, Int.reduceToNat, Int.reduceLE, Int.reduceLT, Int.reduceAdd, Int.reduceSub, Int.reduceMul, Int.reduceNeg, Int.reduceDiv, Int.reduceMod, Int.reduceTDiv, Int.reduceTMod, Int.reducePow, c1, c2, d1, d2, d3, d4, w0, hg, encN_cells] <;> (repeat' ((first | with_reducible refine brG_intro (fun hc => ?_) (fun hc => ?_) | with_reducible refine brC_intro (fun hc => ?_) (fun hc => ?_) | ((with_reducible refine c_opsD ?_); have hc := @List.length_nil Nat) | ((with_reducible refine c_opsT ?_); have hc := @List.length_nil Nat) | ((with_reducible refine and_crit ?_ ?_); rfl; have hc := @List.length_nil Nat) | ((with_reducible refine crit_done ?_); rfl) | ((with_reducible refine mkC_go (fun _ => ?_)); have hc := @List.length_nil Nat) | ((with_reducible refine mkL_go (fun _ => ?_)); have hc := @List.length_nil Nat)) <;> (try simp only [Bool.not_eq_true', Bool.not_eq_false', Bool.not_true, Bool.not_false] at hc) <;> (try simp only [hc, go_sem, reduceIte, Nat.reduceEqDiff, Nat.reduceAdd, Int.reduceEq, Nat.reduceLeDiff, Nat.reduceLT, Nat.reduceBEq, Nat.reduceMul, Nat.reduceSub, Int.reduceToNat, Int.reduceLE, Int.reduceLT, Int.reduceAdd, Int.reduceSub, Int.reduceMul, Int.reduceNeg, Int.reduceDiv, Int.reduceMod, Int.reduceTDiv, Int.reduceTMod, Int.reducePow, c1, c2, d1, d2, d3, d4, w0, hg, encN_cells]))))

end Go.Proofs.YthcaepnclhgkmaaDoor
