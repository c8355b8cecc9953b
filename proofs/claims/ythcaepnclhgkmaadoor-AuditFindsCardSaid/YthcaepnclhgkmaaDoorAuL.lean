/- The law AuditFinds. -/
import Derived.Test.YthcaepnclhgkmaaDoorAuK
import Derived.Test.YthcaepnclhgkmaaDoorAuC
namespace Go.Proofs.YthcaepnclhgkmaaDoor
open Go Go.Abs
set_option linter.unusedSimpArgs false
set_option linter.unusedVariables false
set_option maxRecDepth 100000
set_option maxHeartbeats 4000000

theorem refT_form (rs : List Ru) (log : List Nt) (end_ : Int) : ∃ a b c d, refT rs log end_ = .agg [J a, J b, J c, J d] := by
  unfold refT
  cases refF rs [] log with
  | none =>
    show ∃ a b c d, lostT (lostF rs log end_) = _
    cases lostF rs log end_ with
    | none => exact ⟨0, 0, 0, 0, rfl⟩
    | some ix => exact ⟨8, (ix.1 : Nat), ix.2.s, ix.2.q, rfl⟩
  | some y => exact ⟨y.1, (y.2.1 : Nat), y.2.2.s, y.2.2.q, rfl⟩

theorem last_facts {log : List Nt} (hl : log.length ≤ 1000) : (log = [] ∧ lastT log = 0 ∧ decide ((0 : Int) < ((log.length : Nat) : Int)) = false) ∨ ∃ y, y ∈ log ∧ lastT log = y.t ∧ decide ((0 : Int) < ((log.length : Nat) : Int)) = true ∧ (log.map encN)[log.length - 1]? = some (encN y) ∧ IntKind.i64.wrap (((log.length : Nat) : Int) - 1) = ((log.length - 1 : Nat) : Int) := by
  cases hg : log.getLast? with
  | none =>
    have : log = [] := by simpa using hg
    subst this
    exact .inl ⟨rfl, rfl, rfl⟩
  | some y =>
    have hlen : 0 < log.length := by
      cases log with
      | nil => simp at hg
      | cons a l => simp
    refine .inr ⟨y, List.mem_of_getLast? hg, by rw [lastT, hg], decide_eq_true (by omega), ?_, by rw [wrap_i64 (by omega) (by omega)]; omega⟩
    rw [List.getElem?_map, ← List.getLast?_eq_getElem?, hg]; rfl

theorem finds_body (rs : List Ru) (log : List Nt) (end_ : Int) (h1 : rs.length ≤ 14) (h2 : log.length ≤ 200) (I : Inl) (n : Nat) (ys : List T) (i : Nat) (hi : i < 4) (hy : takeR true 3 ((ys.map AV.t).drop (i * 3)) = some (.t (.agg [.sl false 4 (rs.map encR), .sl false 4 (log.map encN), J end_]))) (Y : FEnv → Heap → Prop) (R : Xit → FEnv → Heap → Prop) (e : FEnv)
    (hs : e 67 = .t (.agg ys) ∧ e 68 = .t (J (i : Nat))) (hw : IntKind.i64.wrap ((i : Int) + 1) = ((i + 1 : Nat) : Int)) (hk : ∀ e h, (e 67 = .t (.agg ys) ∧ e 68 = .t (J ((i + 1 : Nat) : Int))) ∧ h = [] → Y e h) :
    wc Tryd.prog pol (ans Tryd.prog pol) I n 3 il3l0 (itK 0 Y R) (tidyF (some [67, 68]) e) [] := by
  have dd : decide ((i : Int) < 4) = true := decide_eq_true (by omega)
  have c1 := rules_ans false rs (by omega)
  rw [and_dec] at c1
  have c2 := notes_ans false log (by omega)
  rw [and_dec] at c2
  by_cases g1 : rs.length ≤ 12 ∧ chkR 0 rs = true
  · rw [decide_eq_true g1] at c1
    by_cases g2 : log.length ≤ 4096 ∧ chkN 0 log = true
    · rw [decide_eq_true g2] at c2
      by_cases g3 : badE log end_
      · have k1 := audit_bad3 false false rs log end_ g1 g2 g3
        simp only [z4] at k1
        by_cases q1 : end_ < 0
        · have d1 : decide (end_ < 0) = true := decide_eq_true q1
          (simp only [il3l0_go, il3l0b, go_sem, reduceIte, Nat.reduceEqDiff, Nat.reduceAdd, Int.reduceEq, Nat.reduceLeDiff, Nat.reduceLT, Nat.reduceBEq, Nat.reduceMul, Nat.reduceSub, Int.reduceToNat, Int.reduceLE, Int.reduceLT, Int.reduceAdd, Int.reduceSub, Int.reduceMul, Int.reduceNeg, Int.reduceDiv, Int.reduceMod, Int.reduceTDiv, Int.reduceTMod, Int.reducePow, hs, hw, dd, hi, hy, c1, c2, k1, d1, decide_true] <;> (repeat' ((first | with_reducible refine brG_intro (fun hc => ?_) (fun hc => ?_) | with_reducible refine brC_intro (fun hc => ?_) (fun hc => ?_) | ((with_reducible refine c_opsD ?_); have hc := @List.length_nil Nat) | ((with_reducible refine c_opsT ?_); have hc := @List.length_nil Nat) | ((with_reducible refine and_crit ?_ ?_); rfl; have hc := @List.length_nil Nat) | ((with_reducible refine crit_done ?_); rfl) | ((with_reducible refine mkC_go (fun _ => ?_)); have hc := @List.length_nil Nat) | ((with_reducible refine mkL_go (fun _ => ?_)); have hc := @List.length_nil Nat)) <;> (try simp only [Bool.not_eq_true', Bool.not_eq_false', Bool.not_true, Bool.not_false] at hc) <;> (try simp only [hc, go_sem, reduceIte, Nat.reduceEqDiff, Nat.reduceAdd, Int.reduceEq, Nat.reduceLeDiff, Nat.reduceLT, Nat.reduceBEq, Nat.reduceMul, Nat.reduceSub, Int.reduceToNat, Int.reduceLE, Int.reduceLT, Int.reduceAdd, Int.reduceSub, Int.reduceMul, Int.reduceNeg, Int.reduceDiv, Int.reduceMod, Int.reduceTDiv, Int.reduceTMod, Int.reducePow, hs, hw, dd, hi, hy, c1, c2, k1, d1, decide_true]))))
          all_goals (refine hk _ _ ⟨?_, rfl⟩; simp only [go_sem, reduceIte, Nat.reduceEqDiff, Nat.reduceAdd, Int.reduceEq, Nat.reduceLeDiff, Nat.reduceLT, Nat.reduceBEq, Nat.reduceMul, Nat.reduceSub, Int.reduceToNat, Int.reduceLE, Int.reduceLT, Int.reduceAdd, Int.reduceSub, Int.reduceMul, Int.reduceNeg, Int.reduceDiv, Int.reduceMod, Int.reduceTDiv, Int.reduceTMod, Int.reducePow, hs, hw])
        · have d1 : decide (end_ < 0) = false := decide_eq_false q1
          by_cases q2 : 1099511627776 < end_
          · have d2 : decide (1099511627776 < end_) = true := decide_eq_true q2
            (simp only [il3l0_go, il3l0b, go_sem, reduceIte, Nat.reduceEqDiff, Nat.reduceAdd, Int.reduceEq, Nat.reduceLeDiff, Nat.reduceLT, Nat.reduceBEq, Nat.reduceMul, Nat.reduceSub, Int.reduceToNat, Int.reduceLE, Int.reduceLT, Int.reduceAdd, Int.reduceSub, Int.reduceMul, Int.reduceNeg, Int.reduceDiv, Int.reduceMod, Int.reduceTDiv, Int.reduceTMod, Int.reducePow, hs, hw, dd, hi, hy, c1, c2, k1, d1, d2, decide_true] <;> (repeat' ((first | with_reducible refine brG_intro (fun hc => ?_) (fun hc => ?_) | with_reducible refine brC_intro (fun hc => ?_) (fun hc => ?_) | ((with_reducible refine c_opsD ?_); have hc := @List.length_nil Nat) | ((with_reducible refine c_opsT ?_); have hc := @List.length_nil Nat) | ((with_reducible refine and_crit ?_ ?_); rfl; have hc := @List.length_nil Nat) | ((with_reducible refine crit_done ?_); rfl) | ((with_reducible refine mkC_go (fun _ => ?_)); have hc := @List.length_nil Nat) | ((with_reducible refine mkL_go (fun _ => ?_)); have hc := @List.length_nil Nat)) <;> (try simp only [Bool.not_eq_true', Bool.not_eq_false', Bool.not_true, Bool.not_false] at hc) <;> (try simp only [hc, go_sem, reduceIte, Nat.reduceEqDiff, Nat.reduceAdd, Int.reduceEq, Nat.reduceLeDiff, Nat.reduceLT, Nat.reduceBEq, Nat.reduceMul, Nat.reduceSub, Int.reduceToNat, Int.reduceLE, Int.reduceLT, Int.reduceAdd, Int.reduceSub, Int.reduceMul, Int.reduceNeg, Int.reduceDiv, Int.reduceMod, Int.reduceTDiv, Int.reduceTMod, Int.reducePow, hs, hw, dd, hi, hy, c1, c2, k1, d1, d2, decide_true]))))
            all_goals (refine hk _ _ ⟨?_, rfl⟩; simp only [go_sem, reduceIte, Nat.reduceEqDiff, Nat.reduceAdd, Int.reduceEq, Nat.reduceLeDiff, Nat.reduceLT, Nat.reduceBEq, Nat.reduceMul, Nat.reduceSub, Int.reduceToNat, Int.reduceLE, Int.reduceLT, Int.reduceAdd, Int.reduceSub, Int.reduceMul, Int.reduceNeg, Int.reduceDiv, Int.reduceMod, Int.reduceTDiv, Int.reduceTMod, Int.reducePow, hs, hw])
          · have d2 : decide (1099511627776 < end_) = false := decide_eq_false q2
            have q3 : end_ < lastT log := by rcases g3 with h | h | h <;> first | exact absurd h (by assumption) | exact h
            rcases last_facts (by omega : log.length ≤ 1000) with ⟨e1, e2, e3⟩ | ⟨y, e1, e2, e3, e4, e5⟩
            · rw [e2] at q3; exact absurd q3 q1
            · rw [e2] at q3
              have d3 : decide (end_ < y.t) = true := decide_eq_true q3
              (simp only [il3l0_go, il3l0b, go_sem, reduceIte, Nat.reduceEqDiff, Nat.reduceAdd, Int.reduceEq, Nat.reduceLeDiff, Nat.reduceLT, Nat.reduceBEq, Nat.reduceMul, Nat.reduceSub, Int.reduceToNat, Int.reduceLE, Int.reduceLT, Int.reduceAdd, Int.reduceSub, Int.reduceMul, Int.reduceNeg, Int.reduceDiv, Int.reduceMod, Int.reduceTDiv, Int.reduceTMod, Int.reducePow, hs, hw, dd, hi, hy, c1, c2, k1, d1, d2, d3, e3, e4, e5, encN_cells, decide_true] <;> (repeat' ((first | with_reducible refine brG_intro (fun hc => ?_) (fun hc => ?_) | with_reducible refine brC_intro (fun hc => ?_) (fun hc => ?_) | ((with_reducible refine c_opsD ?_); have hc := @List.length_nil Nat) | ((with_reducible refine c_opsT ?_); have hc := @List.length_nil Nat) | ((with_reducible refine and_crit ?_ ?_); rfl; have hc := @List.length_nil Nat) | ((with_reducible refine crit_done ?_); rfl) | ((with_reducible refine mkC_go (fun _ => ?_)); have hc := @List.length_nil Nat) | ((with_reducible refine mkL_go (fun _ => ?_)); have hc := @List.length_nil Nat)) <;> (try simp only [Bool.not_eq_true', Bool.not_eq_false', Bool.not_true, Bool.not_false] at hc) <;> (try simp only [hc, go_sem, reduceIte, Nat.reduceEqDiff, Nat.reduceAdd, Int.reduceEq, Nat.reduceLeDiff, Nat.reduceLT, Nat.reduceBEq, Nat.reduceMul, Nat.reduceSub, Int.reduceToNat, Int.reduceLE, Int.reduceLT, Int.reduceAdd, Int.reduceSub, Int.reduceMul, Int.reduceNeg, Int.reduceDiv, Int.reduceMod, Int.reduceTDiv, Int.reduceTMod, Int.reducePow, hs, hw, dd, hi, hy, c1, c2, k1, d1, d2, d3, e3, e4, e5, encN_cells, decide_true]))))
              all_goals (refine hk _ _ ⟨?_, rfl⟩; simp only [go_sem, reduceIte, Nat.reduceEqDiff, Nat.reduceAdd, Int.reduceEq, Nat.reduceLeDiff, Nat.reduceLT, Nat.reduceBEq, Nat.reduceMul, Nat.reduceSub, Int.reduceToNat, Int.reduceLE, Int.reduceLT, Int.reduceAdd, Int.reduceSub, Int.reduceMul, Int.reduceNeg, Int.reduceDiv, Int.reduceMod, Int.reduceTDiv, Int.reduceTMod, Int.reducePow, hs, hw])
      · have k1 := audit_ok false false rs log end_ g1 g2 g3
        have hokL := chkN_ok (Int.le_refl 0) g2.2
        rw [aud_eq (fun x hx => (hokL x hx).1)] at k1
        have k2 := refAudit_ans false false rs log end_ (by omega) (by omega) (fun x hx => (hokL x hx).2) (ruleD_mo g1.2)
        obtain ⟨a, b, c, d, hf⟩ := refT_form rs log end_
        rw [hf] at k1 k2
        have d1 : decide (end_ < 0) = false := decide_eq_false (fun g => g3 (.inl g))
        have d2 : decide (1099511627776 < end_) = false := decide_eq_false (fun g => g3 (.inr (.inl g)))
        have q3 : ¬ end_ < lastT log := fun g => g3 (.inr (.inr g))
        rcases last_facts (by omega : log.length ≤ 1000) with ⟨e1, e2, e3⟩ | ⟨y, e1, e2, e3, e4, e5⟩
        · (simp only [il3l0_go, il3l0b, go_sem, reduceIte, Nat.reduceEqDiff, Nat.reduceAdd, Int.reduceEq, Nat.reduceLeDiff, Nat.reduceLT, Nat.reduceBEq, Nat.reduceMul, Nat.reduceSub, Int.reduceToNat, Int.reduceLE, Int.reduceLT, Int.reduceAdd, Int.reduceSub, Int.reduceMul, Int.reduceNeg, Int.reduceDiv, Int.reduceMod, Int.reduceTDiv, Int.reduceTMod, Int.reducePow, hs, hw, dd, hi, hy, c1, c2, k1, k2, d1, d2, e3, decide_true] <;> (repeat' ((first | with_reducible refine brG_intro (fun hc => ?_) (fun hc => ?_) | with_reducible refine brC_intro (fun hc => ?_) (fun hc => ?_) | ((with_reducible refine c_opsD ?_); have hc := @List.length_nil Nat) | ((with_reducible refine c_opsT ?_); have hc := @List.length_nil Nat) | ((with_reducible refine and_crit ?_ ?_); rfl; have hc := @List.length_nil Nat) | ((with_reducible refine crit_done ?_); rfl) | ((with_reducible refine mkC_go (fun _ => ?_)); have hc := @List.length_nil Nat) | ((with_reducible refine mkL_go (fun _ => ?_)); have hc := @List.length_nil Nat)) <;> (try simp only [Bool.not_eq_true', Bool.not_eq_false', Bool.not_true, Bool.not_false] at hc) <;> (try simp only [hc, go_sem, reduceIte, Nat.reduceEqDiff, Nat.reduceAdd, Int.reduceEq, Nat.reduceLeDiff, Nat.reduceLT, Nat.reduceBEq, Nat.reduceMul, Nat.reduceSub, Int.reduceToNat, Int.reduceLE, Int.reduceLT, Int.reduceAdd, Int.reduceSub, Int.reduceMul, Int.reduceNeg, Int.reduceDiv, Int.reduceMod, Int.reduceTDiv, Int.reduceTMod, Int.reducePow, hs, hw, dd, hi, hy, c1, c2, k1, k2, d1, d2, e3, decide_true]))))
          all_goals (refine hk _ _ ⟨?_, rfl⟩; simp only [go_sem, reduceIte, Nat.reduceEqDiff, Nat.reduceAdd, Int.reduceEq, Nat.reduceLeDiff, Nat.reduceLT, Nat.reduceBEq, Nat.reduceMul, Nat.reduceSub, Int.reduceToNat, Int.reduceLE, Int.reduceLT, Int.reduceAdd, Int.reduceSub, Int.reduceMul, Int.reduceNeg, Int.reduceDiv, Int.reduceMod, Int.reduceTDiv, Int.reduceTMod, Int.reducePow, hs, hw])
        · rw [e2] at q3
          have d3 : decide (end_ < y.t) = false := decide_eq_false q3
          (simp only [il3l0_go, il3l0b, go_sem, reduceIte, Nat.reduceEqDiff, Nat.reduceAdd, Int.reduceEq, Nat.reduceLeDiff, Nat.reduceLT, Nat.reduceBEq, Nat.reduceMul, Nat.reduceSub, Int.reduceToNat, Int.reduceLE, Int.reduceLT, Int.reduceAdd, Int.reduceSub, Int.reduceMul, Int.reduceNeg, Int.reduceDiv, Int.reduceMod, Int.reduceTDiv, Int.reduceTMod, Int.reducePow, hs, hw, dd, hi, hy, c1, c2, k1, k2, d1, d2, d3, e3, e4, e5, encN_cells, decide_true] <;> (repeat' ((first | with_reducible refine brG_intro (fun hc => ?_) (fun hc => ?_) | with_reducible refine brC_intro (fun hc => ?_) (fun hc => ?_) | ((with_reducible refine c_opsD ?_); have hc := @List.length_nil Nat) | ((with_reducible refine c_opsT ?_); have hc := @List.length_nil Nat) | ((with_reducible refine and_crit ?_ ?_); rfl; have hc := @List.length_nil Nat) | ((with_reducible refine crit_done ?_); rfl) | ((with_reducible refine mkC_go (fun _ => ?_)); have hc := @List.length_nil Nat) | ((with_reducible refine mkL_go (fun _ => ?_)); have hc := @List.length_nil Nat)) <;> (try simp only [Bool.not_eq_true', Bool.not_eq_false', Bool.not_true, Bool.not_false] at hc) <;> (try simp only [hc, go_sem, reduceIte, Nat.reduceEqDiff, Nat.reduceAdd, Int.reduceEq, Nat.reduceLeDiff, Nat.reduceLT, Nat.reduceBEq, Nat.reduceMul, Nat.reduceSub, Int.reduceToNat, Int.reduceLE, Int.reduceLT, Int.reduceAdd, Int.reduceSub, Int.reduceMul, Int.reduceNeg, Int.reduceDiv, Int.reduceMod, Int.reduceTDiv, Int.reduceTMod, Int.reducePow, hs, hw, dd, hi, hy, c1, c2, k1, k2, d1, d2, d3, e3, e4, e5, encN_cells, decide_true]))))
          all_goals (refine hk _ _ ⟨?_, rfl⟩; simp only [go_sem, reduceIte, Nat.reduceEqDiff, Nat.reduceAdd, Int.reduceEq, Nat.reduceLeDiff, Nat.reduceLT, Nat.reduceBEq, Nat.reduceMul, Nat.reduceSub, Int.reduceToNat, Int.reduceLE, Int.reduceLT, Int.reduceAdd, Int.reduceSub, Int.reduceMul, Int.reduceNeg, Int.reduceDiv, Int.reduceMod, Int.reduceTDiv, Int.reduceTMod, Int.reducePow, hs, hw])
    · rw [decide_eq_false g2] at c2
      have k1 := audit_bad2 false false rs log end_ g1 g2
      simp only [z4] at k1
      (simp only [il3l0_go, il3l0b, go_sem, reduceIte, Nat.reduceEqDiff, Nat.reduceAdd, Int.reduceEq, Nat.reduceLeDiff, Nat.reduceLT, Nat.reduceBEq, Nat.reduceMul, Nat.reduceSub, Int.reduceToNat, Int.reduceLE, Int.reduceLT, Int.reduceAdd, Int.reduceSub, Int.reduceMul, Int.reduceNeg, Int.reduceDiv, Int.reduceMod, Int.reduceTDiv, Int.reduceTMod, Int.reducePow, hs, hw, dd, hi, hy, c1, c2, k1, decide_true] <;> (repeat' ((first | with_reducible refine brG_intro (fun hc => ?_) (fun hc => ?_) | with_reducible refine brC_intro (fun hc => ?_) (fun hc => ?_) | ((with_reducible refine c_opsD ?_); have hc := @List.length_nil Nat) | ((with_reducible refine c_opsT ?_); have hc := @List.length_nil Nat) | ((with_reducible refine and_crit ?_ ?_); rfl; have hc := @List.length_nil Nat) | ((with_reducible refine crit_done ?_); rfl) | ((with_reducible refine mkC_go (fun _ => ?_)); have hc := @List.length_nil Nat) | ((with_reducible refine mkL_go (fun _ => ?_)); have hc := @List.length_nil Nat)) <;> (try simp only [Bool.not_eq_true', Bool.not_eq_false', Bool.not_true, Bool.not_false] at hc) <;> (try simp only [hc, go_sem, reduceIte, Nat.reduceEqDiff, Nat.reduceAdd, Int.reduceEq, Nat.reduceLeDiff, Nat.reduceLT, Nat.reduceBEq, Nat.reduceMul, Nat.reduceSub, Int.reduceToNat, Int.reduceLE, Int.reduceLT, Int.reduceAdd, Int.reduceSub, Int.reduceMul, Int.reduceNeg, Int.reduceDiv, Int.reduceMod, Int.reduceTDiv, Int.reduceTMod, Int.reducePow, hs, hw, dd, hi, hy, c1, c2, k1, decide_true]))))
      all_goals (refine hk _ _ ⟨?_, rfl⟩; simp only [go_sem, reduceIte, Nat.reduceEqDiff, Nat.reduceAdd, Int.reduceEq, Nat.reduceLeDiff, Nat.reduceLT, Nat.reduceBEq, Nat.reduceMul, Nat.reduceSub, Int.reduceToNat, Int.reduceLE, Int.reduceLT, Int.reduceAdd, Int.reduceSub, Int.reduceMul, Int.reduceNeg, Int.reduceDiv, Int.reduceMod, Int.reduceTDiv, Int.reduceTMod, Int.reducePow, hs, hw])
  · rw [decide_eq_false g1] at c1
    have k1 := audit_bad1 false false rs log end_ g1
    simp only [z4] at k1
    (simp only [il3l0_go, il3l0b, go_sem, reduceIte, Nat.reduceEqDiff, Nat.reduceAdd, Int.reduceEq, Nat.reduceLeDiff, Nat.reduceLT, Nat.reduceBEq, Nat.reduceMul, Nat.reduceSub, Int.reduceToNat, Int.reduceLE, Int.reduceLT, Int.reduceAdd, Int.reduceSub, Int.reduceMul, Int.reduceNeg, Int.reduceDiv, Int.reduceMod, Int.reduceTDiv, Int.reduceTMod, Int.reducePow, hs, hw, dd, hi, hy, c1, c2, k1, decide_true] <;> (repeat' ((first | with_reducible refine brG_intro (fun hc => ?_) (fun hc => ?_) | with_reducible refine brC_intro (fun hc => ?_) (fun hc => ?_) | ((with_reducible refine c_opsD ?_); have hc := @List.length_nil Nat) | ((with_reducible refine c_opsT ?_); have hc := @List.length_nil Nat) | ((with_reducible refine and_crit ?_ ?_); rfl; have hc := @List.length_nil Nat) | ((with_reducible refine crit_done ?_); rfl) | ((with_reducible refine mkC_go (fun _ => ?_)); have hc := @List.length_nil Nat) | ((with_reducible refine mkL_go (fun _ => ?_)); have hc := @List.length_nil Nat)) <;> (try simp only [Bool.not_eq_true', Bool.not_eq_false', Bool.not_true, Bool.not_false] at hc) <;> (try simp only [hc, go_sem, reduceIte, Nat.reduceEqDiff, Nat.reduceAdd, Int.reduceEq, Nat.reduceLeDiff, Nat.reduceLT, Nat.reduceBEq, Nat.reduceMul, Nat.reduceSub, Int.reduceToNat, Int.reduceLE, Int.reduceLT, Int.reduceAdd, Int.reduceSub, Int.reduceMul, Int.reduceNeg, Int.reduceDiv, Int.reduceMod, Int.reduceTDiv, Int.reduceTMod, Int.reducePow, hs, hw, dd, hi, hy, c1, c2, k1, decide_true]))))
    all_goals (refine hk _ _ ⟨?_, rfl⟩; simp only [go_sem, reduceIte, Nat.reduceEqDiff, Nat.reduceAdd, Int.reduceEq, Nat.reduceLeDiff, Nat.reduceLT, Nat.reduceBEq, Nat.reduceMul, Nat.reduceSub, Int.reduceToNat, Int.reduceLE, Int.reduceLT, Int.reduceAdd, Int.reduceSub, Int.reduceMul, Int.reduceNeg, Int.reduceDiv, Int.reduceMod, Int.reduceTDiv, Int.reduceTMod, Int.reducePow, hs, hw])

theorem auditFinds_ans (rs : List Ru) (log : List Nt) (w : List Wi) (m : List Mv) (end_ : Int) (hwl : w.length < 9223372036854775808) (hw : ∀ x ∈ w, okW x) (hm : ∀ x ∈ m, okM x) :
    ans Tryd.prog pol 3 [.sl false 4 (rs.map encR), .sl false 4 (log.map encN), .sl false 3 (w.map encW), .sl false 5 (m.map encM), J end_] = some (B true) := by
  have m1 : (if (14 : Int) < (rs.length : Nat) then 14 else ((rs.length : Nat) : Int)) = ((min rs.length 14 : Nat) : Int) := min_k _ 14
  have m2 : (if (100 : Int) < (log.length : Nat) then 100 else ((log.length : Nat) : Int)) = ((min log.length 100 : Nat) : Int) := min_k _ 100
  have m3 : (if (100 : Int) < (m.length : Nat) then 100 else ((m.length : Nat) : Int)) = ((min m.length 100 : Nat) : Int) := min_k _ 100
  have l1 : min rs.length 14 ≤ rs.length := Nat.min_le_left _ _
  have l2 : min log.length 100 ≤ log.length := Nat.min_le_left _ _
  have l3 : min m.length 100 ≤ m.length := Nat.min_le_left _ _
  have t1 := take_min (enc := encR) rs 14
  have t2 := take_min (enc := encN) log 100
  have t3 := take_min (enc := encM) m 100
  have h1 : (rs.take 14).length ≤ 14 := by simp; omega
  have h2 : (log.take 100).length ≤ 200 := by simp; omega
  have h3 : (m.take 100).length < 9223372036854775808 := by simp; omega
  have hm' : ∀ x ∈ m.take 100, okM x := fun x hx => hm x (List.mem_of_mem_take hx)
  generalize rs.take 14 = rs' at t1 h1
  generalize log.take 100 = log' at t2 h2
  generalize m.take 100 = m' at t3 h3 hm'
  have c1 := some_ans w hwl hw
  have hS := (some_ok w 0 hw (by omega)).2
  have c2 := log_ans m' h3 hm'
  obtain ⟨_, hL, hLt⟩ := log_ok m' 0 0 hm' (by omega) (by omega) (by omega)
  generalize someF 0 w = S at c1 hS
  generalize logF 0 0 m' = L at c2 hL hLt
  have main : ∀ (la : Int) (lb : Int) (I : Inl) (e : FEnv) (R : Xit → FEnv → Heap → Prop), (∀ e, R (.exit 0) e []) →
      (e 67 = .t (.agg [.sl false 4 (rs'.map encR), .sl false 4 (log'.map encN), J end_, .sl false 4 (S.map encR), .sl false 4 (L.map encN), J end_, .sl false 4 (S.map encR), .sl false 4 (L.map encN), J la, .sl false 4 (S.map encR), .sl false 4 (L.map encN), J lb]) ∧ e 68 = .t (J 0)) →
      wpIter 0 (some [67, 68]) (wc Tryd.prog pol (ans Tryd.prog pol) I 100 3 il3l0) R 100 e [] := by
    intro la lb I e R hR he
    have hu : ∀ (i : Nat), i < 4 → ∃ (RS : List Ru) (LG : List Nt) (E : Int), RS.length ≤ 14 ∧ LG.length ≤ 200 ∧ takeR true 3 ((([.sl false 4 (rs'.map encR), .sl false 4 (log'.map encN), J end_, .sl false 4 (S.map encR), .sl false 4 (L.map encN), J end_, .sl false 4 (S.map encR), .sl false 4 (L.map encN), J la, .sl false 4 (S.map encR), .sl false 4 (L.map encN), J lb] : List T).map AV.t).drop (i * 3)) = some (.t (.agg [.sl false 4 (RS.map encR), .sl false 4 (LG.map encN), J E])) := by
      intro i hi
      have h4 : i = 0 ∨ i = 1 ∨ i = 2 ∨ i = 3 := by omega
      rcases h4 with rfl | rfl | rfl | rfl
      · exact ⟨rs', log', end_, h1, h2, rfl⟩
      · exact ⟨S, L, end_, by omega, by omega, rfl⟩
      · exact ⟨S, L, la, by omega, by omega, rfl⟩
      · exact ⟨S, L, lb, by omega, by omega, rfl⟩
    generalize ([.sl false 4 (rs'.map encR), .sl false 4 (log'.map encN), J end_, .sl false 4 (S.map encR), .sl false 4 (L.map encN), J end_, .sl false 4 (S.map encR), .sl false 4 (L.map encN), J la, .sl false 4 (S.map encR), .sl false 4 (L.map encN), J lb] : List T) = ys at hu he
    refine loop_upto 4 (step := fun i (_ : Unit) => Ctl.go ()) (fin := id)
      (St := fun i _ e h => (e 67 = .t (.agg ys) ∧ e 68 = .t (J (i : Nat))) ∧ h = [])
      (Ex := fun _ y e h => y = .exit 0 ∧ h = []) (s := ()) (by omega) ?_ ?_ (by omega) ⟨he, rfl⟩ ?_
    · intro i _ e h Y R hi _ hw ⟨hs, hh⟩ hk
      subst hh
      simp only [ctlK_go] at hk
      obtain ⟨RS, LG, E, b1, b2, hy⟩ := hu i hi
      exact finds_body RS LG E b1 b2 I 100 ys i hi hy Y R e hs hw hk
    · intro _ e h Y R _ ⟨hs, hh⟩ hk
      subst hh
      have dd : decide ((4 : Int) < 4) = false := rfl
      (simp only [il3l0_go, il3l0b, go_sem, reduceIte, Nat.reduceEqDiff, Nat.reduceAdd, Int.reduceEq, Nat.reduceLeDiff, Nat.reduceLT, Nat.reduceBEq, Nat.reduceMul, Nat.reduceSub, Int.reduceToNat, Int.reduceLE, Int.reduceLT, Int.reduceAdd, Int.reduceSub, Int.reduceMul, Int.reduceNeg, Int.reduceDiv, Int.reduceMod, Int.reduceTDiv, Int.reduceTMod, Int.reducePow, hs, dd] <;> (repeat' ((first | with_reducible refine brG_intro (fun hc => ?_) (fun hc => ?_) | with_reducible refine brC_intro (fun hc => ?_) (fun hc => ?_) | ((with_reducible refine c_opsD ?_); have hc := @List.length_nil Nat) | ((with_reducible refine c_opsT ?_); have hc := @List.length_nil Nat) | ((with_reducible refine and_crit ?_ ?_); rfl; have hc := @List.length_nil Nat) | ((with_reducible refine crit_done ?_); rfl) | ((with_reducible refine mkC_go (fun _ => ?_)); have hc := @List.length_nil Nat) | ((with_reducible refine mkL_go (fun _ => ?_)); have hc := @List.length_nil Nat)) <;> (try simp only [Bool.not_eq_true', Bool.not_eq_false', Bool.not_true, Bool.not_false] at hc) <;> (try simp only [hc, go_sem, reduceIte, Nat.reduceEqDiff, Nat.reduceAdd, Int.reduceEq, Nat.reduceLeDiff, Nat.reduceLT, Nat.reduceBEq, Nat.reduceMul, Nat.reduceSub, Int.reduceToNat, Int.reduceLE, Int.reduceLT, Int.reduceAdd, Int.reduceSub, Int.reduceMul, Int.reduceNeg, Int.reduceDiv, Int.reduceMod, Int.reduceTDiv, Int.reduceTMod, Int.reducePow, hs, dd]))))
      all_goals (refine hk _ _ _ ⟨?_, rfl⟩; simp only [go_sem, reduceIte, Nat.reduceEqDiff, Nat.reduceAdd, Int.reduceEq, Nat.reduceLeDiff, Nat.reduceLT, Nat.reduceBEq, Nat.reduceMul, Nat.reduceSub, Int.reduceToNat, Int.reduceLE, Int.reduceLT, Int.reduceAdd, Int.reduceSub, Int.reduceMul, Int.reduceNeg, Int.reduceDiv, Int.reduceMod, Int.reduceTDiv, Int.reduceTMod, Int.reducePow])
    · intro z e h ⟨h1, h2⟩
      subst h1 h2
      exact hR _
  refine ans_go 100 2 il3_eq (Nat.le_of_ble_eq_true rfl) ?_
  rcases last_facts (by omega : L.length ≤ 1000) with ⟨e1, e2, e3⟩ | ⟨y, e1, e2, e3, e4, e5⟩
  · (simp only [il3c, go_sem, reduceIte, Nat.reduceEqDiff, Nat.reduceAdd, Int.reduceEq, Nat.reduceLeDiff, Nat.reduceLT, Nat.reduceBEq, Nat.reduceMul, Nat.reduceSub, Int.reduceToNat, Int.reduceLE, Int.reduceLT, Int.reduceAdd, Int.reduceSub, Int.reduceMul, Int.reduceNeg, Int.reduceDiv, Int.reduceMod, Int.reduceTDiv, Int.reduceTMod, Int.reducePow, works44_ans, c1, c2, m1, m2, m3, l1, l2, l3, t1, t2, t3, e3] <;> (repeat' ((first | with_reducible refine brG_intro (fun hc => ?_) (fun hc => ?_) | with_reducible refine brC_intro (fun hc => ?_) (fun hc => ?_) | ((with_reducible refine c_opsD ?_); have hc := @List.length_nil Nat) | ((with_reducible refine c_opsT ?_); have hc := @List.length_nil Nat) | ((with_reducible refine and_crit ?_ ?_); rfl; have hc := @List.length_nil Nat) | ((with_reducible refine crit_done ?_); rfl) | ((with_reducible refine mkC_go (fun _ => ?_)); have hc := @List.length_nil Nat) | ((with_reducible refine mkL_go (fun _ => ?_)); have hc := @List.length_nil Nat)) <;> (try simp only [Bool.not_eq_true', Bool.not_eq_false', Bool.not_true, Bool.not_false] at hc) <;> (try simp only [hc, go_sem, reduceIte, Nat.reduceEqDiff, Nat.reduceAdd, Int.reduceEq, Nat.reduceLeDiff, Nat.reduceLT, Nat.reduceBEq, Nat.reduceMul, Nat.reduceSub, Int.reduceToNat, Int.reduceLE, Int.reduceLT, Int.reduceAdd, Int.reduceSub, Int.reduceMul, Int.reduceNeg, Int.reduceDiv, Int.reduceMod, Int.reduceTDiv, Int.reduceTMod, Int.reducePow, works44_ans, c1, c2, m1, m2, m3, l1, l2, l3, t1, t2, t3, e3]))))
    refine main 0 (IntKind.i64.wrap (0 + 300)) _ _ _ ?_ (by simp only [go_sem, reduceIte, Nat.reduceEqDiff, Nat.reduceAdd, Int.reduceEq, Nat.reduceLeDiff, Nat.reduceLT, Nat.reduceBEq, Nat.reduceMul, Nat.reduceSub, Int.reduceToNat, Int.reduceLE, Int.reduceLT, Int.reduceAdd, Int.reduceSub, Int.reduceMul, Int.reduceNeg, Int.reduceDiv, Int.reduceMod, Int.reduceTDiv, Int.reduceTMod, Int.reducePow])
    intro e
    (simp only [il3c, go_sem, reduceIte, Nat.reduceEqDiff, Nat.reduceAdd, Int.reduceEq, Nat.reduceLeDiff, Nat.reduceLT, Nat.reduceBEq, Nat.reduceMul, Nat.reduceSub, Int.reduceToNat, Int.reduceLE, Int.reduceLT, Int.reduceAdd, Int.reduceSub, Int.reduceMul, Int.reduceNeg, Int.reduceDiv, Int.reduceMod, Int.reduceTDiv, Int.reduceTMod, Int.reducePow] <;> (repeat' ((first | with_reducible refine brG_intro (fun hc => ?_) (fun hc => ?_) | with_reducible refine brC_intro (fun hc => ?_) (fun hc => ?_) | ((with_reducible refine c_opsD ?_); have hc := @List.length_nil Nat) | ((with_reducible refine c_opsT ?_); have hc := @List.length_nil Nat) | ((with_reducible refine and_crit ?_ ?_); rfl; have hc := @List.length_nil Nat) | ((with_reducible refine crit_done ?_); rfl) | ((with_reducible refine mkC_go (fun _ => ?_)); have hc := @List.length_nil Nat) | ((with_reducible refine mkL_go (fun _ => ?_)); have hc := @List.length_nil Nat)) <;> (try simp only [Bool.not_eq_true', Bool.not_eq_false', Bool.not_true, Bool.not_false] at hc) <;> (try simp only [hc, go_sem, reduceIte, Nat.reduceEqDiff, Nat.reduceAdd, Int.reduceEq, Nat.reduceLeDiff, Nat.reduceLT, Nat.reduceBEq, Nat.reduceMul, Nat.reduceSub, Int.reduceToNat, Int.reduceLE, Int.reduceLT, Int.reduceAdd, Int.reduceSub, Int.reduceMul, Int.reduceNeg, Int.reduceDiv, Int.reduceMod, Int.reduceTDiv, Int.reduceTMod, Int.reducePow]))))
  · (simp only [il3c, go_sem, reduceIte, Nat.reduceEqDiff, Nat.reduceAdd, Int.reduceEq, Nat.reduceLeDiff, Nat.reduceLT, Nat.reduceBEq, Nat.reduceMul, Nat.reduceSub, Int.reduceToNat, Int.reduceLE, Int.reduceLT, Int.reduceAdd, Int.reduceSub, Int.reduceMul, Int.reduceNeg, Int.reduceDiv, Int.reduceMod, Int.reduceTDiv, Int.reduceTMod, Int.reducePow, works44_ans, c1, c2, m1, m2, m3, l1, l2, l3, t1, t2, t3, e3, e4, e5, encN_cells] <;> (repeat' ((first | with_reducible refine brG_intro (fun hc => ?_) (fun hc => ?_) | with_reducible refine brC_intro (fun hc => ?_) (fun hc => ?_) | ((with_reducible refine c_opsD ?_); have hc := @List.length_nil Nat) | ((with_reducible refine c_opsT ?_); have hc := @List.length_nil Nat) | ((with_reducible refine and_crit ?_ ?_); rfl; have hc := @List.length_nil Nat) | ((with_reducible refine crit_done ?_); rfl) | ((with_reducible refine mkC_go (fun _ => ?_)); have hc := @List.length_nil Nat) | ((with_reducible refine mkL_go (fun _ => ?_)); have hc := @List.length_nil Nat)) <;> (try simp only [Bool.not_eq_true', Bool.not_eq_false', Bool.not_true, Bool.not_false] at hc) <;> (try simp only [hc, go_sem, reduceIte, Nat.reduceEqDiff, Nat.reduceAdd, Int.reduceEq, Nat.reduceLeDiff, Nat.reduceLT, Nat.reduceBEq, Nat.reduceMul, Nat.reduceSub, Int.reduceToNat, Int.reduceLE, Int.reduceLT, Int.reduceAdd, Int.reduceSub, Int.reduceMul, Int.reduceNeg, Int.reduceDiv, Int.reduceMod, Int.reduceTDiv, Int.reduceTMod, Int.reducePow, works44_ans, c1, c2, m1, m2, m3, l1, l2, l3, t1, t2, t3, e3, e4, e5, encN_cells]))))
    refine main y.t (IntKind.i64.wrap (y.t + 300)) _ _ _ ?_ (by simp only [go_sem, reduceIte, Nat.reduceEqDiff, Nat.reduceAdd, Int.reduceEq, Nat.reduceLeDiff, Nat.reduceLT, Nat.reduceBEq, Nat.reduceMul, Nat.reduceSub, Int.reduceToNat, Int.reduceLE, Int.reduceLT, Int.reduceAdd, Int.reduceSub, Int.reduceMul, Int.reduceNeg, Int.reduceDiv, Int.reduceMod, Int.reduceTDiv, Int.reduceTMod, Int.reducePow])
    intro e
    (simp only [il3c, go_sem, reduceIte, Nat.reduceEqDiff, Nat.reduceAdd, Int.reduceEq, Nat.reduceLeDiff, Nat.reduceLT, Nat.reduceBEq, Nat.reduceMul, Nat.reduceSub, Int.reduceToNat, Int.reduceLE, Int.reduceLT, Int.reduceAdd, Int.reduceSub, Int.reduceMul, Int.reduceNeg, Int.reduceDiv, Int.reduceMod, Int.reduceTDiv, Int.reduceTMod, Int.reducePow] <;> (repeat' ((first | with_reducible refine brG_intro (fun hc => ?_) (fun hc => ?_) | with_reducible refine brC_intro (fun hc => ?_) (fun hc => ?_) | ((with_reducible refine c_opsD ?_); have hc := @List.length_nil Nat) | ((with_reducible refine c_opsT ?_); have hc := @List.length_nil Nat) | ((with_reducible refine and_crit ?_ ?_); rfl; have hc := @List.length_nil Nat) | ((with_reducible refine crit_done ?_); rfl) | ((with_reducible refine mkC_go (fun _ => ?_)); have hc := @List.length_nil Nat) | ((with_reducible refine mkL_go (fun _ => ?_)); have hc := @List.length_nil Nat)) <;> (try simp only [Bool.not_eq_true', Bool.not_eq_false', Bool.not_true, Bool.not_false] at hc) <;> (try simp only [hc, go_sem, reduceIte, Nat.reduceEqDiff, Nat.reduceAdd, Int.reduceEq, Nat.reduceLeDiff, Nat.reduceLT, Nat.reduceBEq, Nat.reduceMul, Nat.reduceSub, Int.reduceToNat, Int.reduceLE, Int.reduceLT, Int.reduceAdd, Int.reduceSub, Int.reduceMul, Int.reduceNeg, Int.reduceDiv, Int.reduceMod, Int.reduceTDiv, Int.reduceTMod, Int.reducePow]))))

end Go.Proofs.YthcaepnclhgkmaaDoor
