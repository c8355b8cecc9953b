/- The law SpanChecks. -/
import Derived.Test.YtcpaijajddaidaaSpD
import Derived.Test.YtcpaijajddaidaaWorks19
namespace Go.Proofs.Ytcpaijajddaidaa
open Go Go.Abs
set_option linter.unusedSimpArgs false
set_option linter.unusedVariables false
set_option maxRecDepth 100000
set_option maxHeartbeats 4000000

theorem spanChecks_ans (x : Br) : ans Try.prog pol 3 [brT false false false x] = some (B true) := by
  have c1 := few_ans x
  have hl1 : (fewB x).ports.length ≤ 30 := by simp [fewB]; omega
  have hl2 : (fewB x).costs.length ≤ 30 := by simp [fewB]; omega
  have hl3 : (fewB x).heard.length ≤ 30 := by simp [fewB]; omega
  generalize fewB x = b at *
  obtain ⟨p, n, ports, costs, heard⟩ := b
  simp only at hl1 hl2 hl3
  have k1 := rgt_ans false false false ⟨p, n, ports, costs, heard⟩
  have k2 := chk_ans false false false ⟨p, n, ports, costs, heard⟩
  have k3 := New_ans false false p n ports costs (by omega)
  have k4 := rgt_ans false false true (newB p n ports costs)
  have k5 := like_ans true true true false false true (newB p n ports costs)
  have k6 := failed_ans 2
  have hroom : 64 * ports.length ≤ roomB := by rw [Nat.mul_comm]; exact ap_room (by omega) (by omega)
  have hbig : ports.length ≤ 9223372036854775807 := by omega
  have hrl : (List.replicate ports.length zH).length = ports.length := by simp
  have hrow := row_rep (enc := encH) (k := 8) (n := ports.length) (mr := 0) zH
  have hrow : AObj.row 8 (List.replicate ports.length (AV.t (T.agg [B false, I 0, I 0, I 0, I 0, I 0, I 0, I 0]))) 0 = AObj.row 8 (((List.replicate ports.length zH).map encH).map .t) 0 := hrow
  have step : ∀ r : Bool, ans Try.prog pol 13 [brT false false false ⟨p, n, ports, costs, heard⟩] = some (B r) → ans Try.prog pol 14 [brT false false false ⟨p, n, ports, costs, heard⟩] = some (I (if r = true then 0 else 290)) → ans Try.prog pol 3 [brT false false false x] = some (B true) := by
    intro r k1 k2
    by_cases ok : okB (newB p n ports costs) = true
    · rw [ok] at k4
      rw [if_pos ok] at k3
      have hcl : costs.length ≤ 1000 := by omega
      have k5 := k5 (by simp only [newB]; omega) hcl (by simp [newB]; omega)
      simp only [newB] at k3 k4 k5
      clear ok
      generalize List.replicate ports.length zH = HL at *
      refine ans_go 1 1 il3_eq (Nat.le_of_ble_eq_true rfl) ?_
      cases r with
      | true =>
        simp only [if_true] at k2
        (simp only [il3c, go_sem, reduceIte, Nat.reduceEqDiff, Nat.reduceAdd, Int.reduceEq, Nat.reduceLeDiff, Nat.reduceLT, Nat.reduceBEq, Nat.reduceMul, Nat.reduceSub, Int.reduceToNat, Int.reduceLE, Int.reduceLT, Int.reduceAdd, Int.reduceSub, Int.reduceMul, Int.reduceNeg, Int.reduceDiv, Int.reduceMod, Int.reduceTDiv, Int.reduceTMod, Int.reducePow, wakes_ans, c1, k1, k2, k3, k4, k5, hroom, hbig, hrow, hrl, allT_agg] <;> (repeat' ((first | with_reducible refine brG_intro (fun hc => ?_) (fun hc => ?_) | with_reducible refine brC_intro (fun hc => ?_) (fun hc => ?_) | ((with_reducible refine c_opsD ?_); have hc := @List.length_nil Nat) | ((with_reducible refine c_opsT ?_); have hc := @List.length_nil Nat) | ((with_reducible refine and_crit ?_ ?_); rfl; have hc := @List.length_nil Nat) | ((with_reducible refine crit_done ?_); rfl) | ((with_reducible refine mkC_go (fun _ => ?_)); have hc := @List.length_nil Nat) | ((with_reducible refine mkL_go (fun _ => ?_)); have hc := @List.length_nil Nat)) <;> (try simp only [Bool.not_eq_true', Bool.not_eq_false', Bool.not_true, Bool.not_false] at hc) <;> (try simp only [hc, go_sem, reduceIte, Nat.reduceEqDiff, Nat.reduceAdd, Int.reduceEq, Nat.reduceLeDiff, Nat.reduceLT, Nat.reduceBEq, Nat.reduceMul, Nat.reduceSub, Int.reduceToNat, Int.reduceLE, Int.reduceLT, Int.reduceAdd, Int.reduceSub, Int.reduceMul, Int.reduceNeg, Int.reduceDiv, Int.reduceMod, Int.reduceTDiv, Int.reduceTMod, Int.reducePow, wakes_ans, c1, k1, k2, k3, k4, k5, hroom, hbig, hrow, hrl, allT_agg]))))
      | false =>
        simp only [Bool.false_eq_true, if_false] at k2
        (simp only [il3c, go_sem, reduceIte, Nat.reduceEqDiff, Nat.reduceAdd, Int.reduceEq, Nat.reduceLeDiff, Nat.reduceLT, Nat.reduceBEq, Nat.reduceMul, Nat.reduceSub, Int.reduceToNat, Int.reduceLE, Int.reduceLT, Int.reduceAdd, Int.reduceSub, Int.reduceMul, Int.reduceNeg, Int.reduceDiv, Int.reduceMod, Int.reduceTDiv, Int.reduceTMod, Int.reducePow, wakes_ans, c1, k1, k2, k3, k4, k5, hroom, hbig, hrow, hrl, allT_agg] <;> (repeat' ((first | with_reducible refine brG_intro (fun hc => ?_) (fun hc => ?_) | with_reducible refine brC_intro (fun hc => ?_) (fun hc => ?_) | ((with_reducible refine c_opsD ?_); have hc := @List.length_nil Nat) | ((with_reducible refine c_opsT ?_); have hc := @List.length_nil Nat) | ((with_reducible refine and_crit ?_ ?_); rfl; have hc := @List.length_nil Nat) | ((with_reducible refine crit_done ?_); rfl) | ((with_reducible refine mkC_go (fun _ => ?_)); have hc := @List.length_nil Nat) | ((with_reducible refine mkL_go (fun _ => ?_)); have hc := @List.length_nil Nat)) <;> (try simp only [Bool.not_eq_true', Bool.not_eq_false', Bool.not_true, Bool.not_false] at hc) <;> (try simp only [hc, go_sem, reduceIte, Nat.reduceEqDiff, Nat.reduceAdd, Int.reduceEq, Nat.reduceLeDiff, Nat.reduceLT, Nat.reduceBEq, Nat.reduceMul, Nat.reduceSub, Int.reduceToNat, Int.reduceLE, Int.reduceLT, Int.reduceAdd, Int.reduceSub, Int.reduceMul, Int.reduceNeg, Int.reduceDiv, Int.reduceMod, Int.reduceTDiv, Int.reduceTMod, Int.reducePow, wakes_ans, c1, k1, k2, k3, k4, k5, hroom, hbig, hrow, hrl, allT_agg]))))
    · rw [Bool.not_eq_true] at ok
      rw [ok] at k4
      rw [if_neg (by simp [ok])] at k3
      simp only [newB] at k4
      clear ok k5
      generalize List.replicate ports.length zH = HL at *
      refine ans_go 1 1 il3_eq (Nat.le_of_ble_eq_true rfl) ?_
      cases r with
      | true =>
        simp only [if_true] at k2
        (simp only [il3c, go_sem, reduceIte, Nat.reduceEqDiff, Nat.reduceAdd, Int.reduceEq, Nat.reduceLeDiff, Nat.reduceLT, Nat.reduceBEq, Nat.reduceMul, Nat.reduceSub, Int.reduceToNat, Int.reduceLE, Int.reduceLT, Int.reduceAdd, Int.reduceSub, Int.reduceMul, Int.reduceNeg, Int.reduceDiv, Int.reduceMod, Int.reduceTDiv, Int.reduceTMod, Int.reducePow, wakes_ans, c1, k1, k2, k3, k4, k6, hroom, hbig, hrow, hrl, allT_agg] <;> (repeat' ((first | with_reducible refine brG_intro (fun hc => ?_) (fun hc => ?_) | with_reducible refine brC_intro (fun hc => ?_) (fun hc => ?_) | ((with_reducible refine c_opsD ?_); have hc := @List.length_nil Nat) | ((with_reducible refine c_opsT ?_); have hc := @List.length_nil Nat) | ((with_reducible refine and_crit ?_ ?_); rfl; have hc := @List.length_nil Nat) | ((with_reducible refine crit_done ?_); rfl) | ((with_reducible refine mkC_go (fun _ => ?_)); have hc := @List.length_nil Nat) | ((with_reducible refine mkL_go (fun _ => ?_)); have hc := @List.length_nil Nat)) <;> (try simp only [Bool.not_eq_true', Bool.not_eq_false', Bool.not_true, Bool.not_false] at hc) <;> (try simp only [hc, go_sem, reduceIte, Nat.reduceEqDiff, Nat.reduceAdd, Int.reduceEq, Nat.reduceLeDiff, Nat.reduceLT, Nat.reduceBEq, Nat.reduceMul, Nat.reduceSub, Int.reduceToNat, Int.reduceLE, Int.reduceLT, Int.reduceAdd, Int.reduceSub, Int.reduceMul, Int.reduceNeg, Int.reduceDiv, Int.reduceMod, Int.reduceTDiv, Int.reduceTMod, Int.reducePow, wakes_ans, c1, k1, k2, k3, k4, k6, hroom, hbig, hrow, hrl, allT_agg]))))
      | false =>
        simp only [Bool.false_eq_true, if_false] at k2
        (simp only [il3c, go_sem, reduceIte, Nat.reduceEqDiff, Nat.reduceAdd, Int.reduceEq, Nat.reduceLeDiff, Nat.reduceLT, Nat.reduceBEq, Nat.reduceMul, Nat.reduceSub, Int.reduceToNat, Int.reduceLE, Int.reduceLT, Int.reduceAdd, Int.reduceSub, Int.reduceMul, Int.reduceNeg, Int.reduceDiv, Int.reduceMod, Int.reduceTDiv, Int.reduceTMod, Int.reducePow, wakes_ans, c1, k1, k2, k3, k4, k6, hroom, hbig, hrow, hrl, allT_agg] <;> (repeat' ((first | with_reducible refine brG_intro (fun hc => ?_) (fun hc => ?_) | with_reducible refine brC_intro (fun hc => ?_) (fun hc => ?_) | ((with_reducible refine c_opsD ?_); have hc := @List.length_nil Nat) | ((with_reducible refine c_opsT ?_); have hc := @List.length_nil Nat) | ((with_reducible refine and_crit ?_ ?_); rfl; have hc := @List.length_nil Nat) | ((with_reducible refine crit_done ?_); rfl) | ((with_reducible refine mkC_go (fun _ => ?_)); have hc := @List.length_nil Nat) | ((with_reducible refine mkL_go (fun _ => ?_)); have hc := @List.length_nil Nat)) <;> (try simp only [Bool.not_eq_true', Bool.not_eq_false', Bool.not_true, Bool.not_false] at hc) <;> (try simp only [hc, go_sem, reduceIte, Nat.reduceEqDiff, Nat.reduceAdd, Int.reduceEq, Nat.reduceLeDiff, Nat.reduceLT, Nat.reduceBEq, Nat.reduceMul, Nat.reduceSub, Int.reduceToNat, Int.reduceLE, Int.reduceLT, Int.reduceAdd, Int.reduceSub, Int.reduceMul, Int.reduceNeg, Int.reduceDiv, Int.reduceMod, Int.reduceTDiv, Int.reduceTMod, Int.reducePow, wakes_ans, c1, k1, k2, k3, k4, k6, hroom, hbig, hrow, hrl, allT_agg]))))
  exact step _ k1 k2

end Go.Proofs.Ytcpaijajddaidaa
