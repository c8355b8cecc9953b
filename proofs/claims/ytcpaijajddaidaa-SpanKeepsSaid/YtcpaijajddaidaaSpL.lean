/- The law SpanKeeps. -/
import Derived.Test.YtcpaijajddaidaaSpK
namespace Go.Proofs.Ytcpaijajddaidaa
open Go Go.Abs
set_option linter.unusedSimpArgs false
set_option linter.unusedVariables false
set_option maxRecDepth 100000
set_option maxHeartbeats 4000000

theorem rcv_again (h : Hd) : rcvH (heardAs h) h = heardAs h := by
  unfold rcvH; split <;> rfl

theorem spanKeeps_ans (p n : Int) (l : List Ev) (hl : ∀ e ∈ l, okE e) (hll : l.length < 9223372036854775808) (h : Hd) (port : Int) (hp : 0 ≤ port ∧ port < 256) :
    ans Try.prog pol 10 [.agg [I p, I n], .sl false 9 (l.map encE), heT h, U8 port] = some (B true) := by
  by_cases hb : bidP p n
  rotate_left
  · obtain ⟨t, k1⟩ := lived_bad p n l hl hll hb
    have k2 := check_ans p n 0 0 0 0
    rw [if_neg (fun h => hb h.1)] at k2
    refine ans_go 1 1 il10_eq (Nat.le_of_ble_eq_true rfl) ?_
    cases t with
    | true =>
      simp only [lvT, if_true] at k1
      (simp only [il10c, go_sem, reduceIte, Nat.reduceEqDiff, Nat.reduceAdd, Int.reduceEq, Nat.reduceLeDiff, Nat.reduceLT, Nat.reduceBEq, Nat.reduceMul, Nat.reduceSub, Int.reduceToNat, Int.reduceLE, Int.reduceLT, Int.reduceAdd, Int.reduceSub, Int.reduceMul, Int.reduceNeg, Int.reduceDiv, Int.reduceMod, Int.reduceTDiv, Int.reduceTMod, Int.reducePow, wakes_ans, k1, k2] <;> (repeat' ((first | with_reducible refine brG_intro (fun hc => ?_) (fun hc => ?_) | with_reducible refine brC_intro (fun hc => ?_) (fun hc => ?_) | ((with_reducible refine c_opsD ?_); have hc := @List.length_nil Nat) | ((with_reducible refine c_opsT ?_); have hc := @List.length_nil Nat) | ((with_reducible refine and_crit ?_ ?_); rfl; have hc := @List.length_nil Nat) | ((with_reducible refine crit_done ?_); rfl) | ((with_reducible refine mkC_go (fun _ => ?_)); have hc := @List.length_nil Nat) | ((with_reducible refine mkL_go (fun _ => ?_)); have hc := @List.length_nil Nat)) <;> (try simp only [Bool.not_eq_true', Bool.not_eq_false', Bool.not_true, Bool.not_false] at hc) <;> (try simp only [hc, go_sem, reduceIte, Nat.reduceEqDiff, Nat.reduceAdd, Int.reduceEq, Nat.reduceLeDiff, Nat.reduceLT, Nat.reduceBEq, Nat.reduceMul, Nat.reduceSub, Int.reduceToNat, Int.reduceLE, Int.reduceLT, Int.reduceAdd, Int.reduceSub, Int.reduceMul, Int.reduceNeg, Int.reduceDiv, Int.reduceMod, Int.reduceTDiv, Int.reduceTMod, Int.reducePow, wakes_ans, k1, k2]))))
    | false =>
      simp only [lvT, Bool.false_eq_true, if_false] at k1
      (simp only [il10c, go_sem, reduceIte, Nat.reduceEqDiff, Nat.reduceAdd, Int.reduceEq, Nat.reduceLeDiff, Nat.reduceLT, Nat.reduceBEq, Nat.reduceMul, Nat.reduceSub, Int.reduceToNat, Int.reduceLE, Int.reduceLT, Int.reduceAdd, Int.reduceSub, Int.reduceMul, Int.reduceNeg, Int.reduceDiv, Int.reduceMod, Int.reduceTDiv, Int.reduceTMod, Int.reducePow, wakes_ans, k1, k2] <;> (repeat' ((first | with_reducible refine brG_intro (fun hc => ?_) (fun hc => ?_) | with_reducible refine brC_intro (fun hc => ?_) (fun hc => ?_) | ((with_reducible refine c_opsD ?_); have hc := @List.length_nil Nat) | ((with_reducible refine c_opsT ?_); have hc := @List.length_nil Nat) | ((with_reducible refine and_crit ?_ ?_); rfl; have hc := @List.length_nil Nat) | ((with_reducible refine crit_done ?_); rfl) | ((with_reducible refine mkC_go (fun _ => ?_)); have hc := @List.length_nil Nat) | ((with_reducible refine mkL_go (fun _ => ?_)); have hc := @List.length_nil Nat)) <;> (try simp only [Bool.not_eq_true', Bool.not_eq_false', Bool.not_true, Bool.not_false] at hc) <;> (try simp only [hc, go_sem, reduceIte, Nat.reduceEqDiff, Nat.reduceAdd, Int.reduceEq, Nat.reduceLeDiff, Nat.reduceLT, Nat.reduceBEq, Nat.reduceMul, Nat.reduceSub, Int.reduceToNat, Int.reduceLE, Int.reduceLT, Int.reduceAdd, Int.reduceSub, Int.reduceMul, Int.reduceNeg, Int.reduceDiv, Int.reduceMod, Int.reduceTDiv, Int.reduceTMod, Int.reducePow, wakes_ans, k1, k2]))))
  obtain ⟨b, hlv, k1⟩ := lived_ok p n l hl hll hb
  have t1 : port.tmod 4 = port % 4 := Int.tmod_eq_emod_of_nonneg hp.1
  have v1 : IntKind.u8.wrap (port % 4) = port % 4 := by rw [wrap_u8]; omega
  have v2 : IntKind.i64.wrap (port % 4) = port % 4 := wrap_i64 (by omega) (by omega)
  obtain ⟨j, hj⟩ := Int.eq_ofNat_of_zero_le (show 0 ≤ port % 4 by omega)
  have hj4 : j < 4 := by omega
  rw [hj] at t1 v1 v2
  have hjp : j < b.ports.length := by rw [hlv.ports]; exact hj4
  by_cases g : helloP h
  rotate_left
  · have r1 := Receive_rank true true true b j h hlv.ok hjp g
    refine ans_go 1 1 il10_eq (Nat.le_of_ble_eq_true rfl) ?_
    (simp only [il10c, go_sem, reduceIte, Nat.reduceEqDiff, Nat.reduceAdd, Int.reduceEq, Nat.reduceLeDiff, Nat.reduceLT, Nat.reduceBEq, Nat.reduceMul, Nat.reduceSub, Int.reduceToNat, Int.reduceLE, Int.reduceLT, Int.reduceAdd, Int.reduceSub, Int.reduceMul, Int.reduceNeg, Int.reduceDiv, Int.reduceMod, Int.reduceTDiv, Int.reduceTMod, Int.reducePow, wakes_ans, k1, t1, v1, v2, r1] <;> (repeat' ((first | with_reducible refine brG_intro (fun hc => ?_) (fun hc => ?_) | with_reducible refine brC_intro (fun hc => ?_) (fun hc => ?_) | ((with_reducible refine c_opsD ?_); have hc := @List.length_nil Nat) | ((with_reducible refine c_opsT ?_); have hc := @List.length_nil Nat) | ((with_reducible refine and_crit ?_ ?_); rfl; have hc := @List.length_nil Nat) | ((with_reducible refine crit_done ?_); rfl) | ((with_reducible refine mkC_go (fun _ => ?_)); have hc := @List.length_nil Nat) | ((with_reducible refine mkL_go (fun _ => ?_)); have hc := @List.length_nil Nat)) <;> (try simp only [Bool.not_eq_true', Bool.not_eq_false', Bool.not_true, Bool.not_false] at hc) <;> (try simp only [hc, go_sem, reduceIte, Nat.reduceEqDiff, Nat.reduceAdd, Int.reduceEq, Nat.reduceLeDiff, Nat.reduceLT, Nat.reduceBEq, Nat.reduceMul, Nat.reduceSub, Int.reduceToNat, Int.reduceLE, Int.reduceLT, Int.reduceAdd, Int.reduceSub, Int.reduceMul, Int.reduceNeg, Int.reduceDiv, Int.reduceMod, Int.reduceTDiv, Int.reduceTMod, Int.reducePow, wakes_ans, k1, t1, v1, v2, r1]))))
  have hh4 := hlv.heard
  have r1 := Receive_ok true true true b j h hlv.ok hjp g
  have hlv2 := hlv.rcv j g
  have r2 := Receive_ok true true true _ j h hlv2.ok (by rw [hlv2.ports]; exact hj4) g
  have ho : b.heard[j]? = some (hrd b j) := by simp [hrd, show j < b.heard.length by omega]
  have h2 : hrd (putB b (b.heard.set j (rcvH (hrd b j) h))) j = rcvH (hrd b j) h := by simp [hrd, putB, show j < b.heard.length by omega]
  rw [h2] at r2
  simp only [putB] at r1 r2
  have hg1 : (b.heard.map encH)[j]? = some (encH (hrd b j)) := by simp [ho]
  have hg2 : ((b.heard.set j (rcvH (hrd b j) h)).map encH)[j]? = some (encH (rcvH (hrd b j) h)) := by simp [show j < b.heard.length by omega]
  have hg3 : (((b.heard.set j (rcvH (hrd b j) h)).set j (rcvH (rcvH (hrd b j) h) h)).map encH)[j]? = some (encH (rcvH (rcvH (hrd b j) h) h)) := by simp [show j < b.heard.length by omega]
  generalize (b.heard.set j (rcvH (hrd b j) h)).set j (rcvH (rcvH (hrd b j) h) h) = L3 at *
  generalize b.heard.set j (rcvH (hrd b j) h) = L2 at *
  have k2 := compH_ans h (hrd b j)
  generalize hrd b j = o at *
  by_cases q0 : o.is = false
  · have e1 : rcvH o h = heardAs h := by rw [rcvH, if_pos (.inl q0)]
    rw [e1] at hg2
    rw [e1, rcv_again] at hg3
    simp only [heardAs] at hg2 hg3
    refine ans_go 1 1 il10_eq (Nat.le_of_ble_eq_true rfl) ?_
    (simp only [il10c, go_sem, reduceIte, Nat.reduceEqDiff, Nat.reduceAdd, Int.reduceEq, Nat.reduceLeDiff, Nat.reduceLT, Nat.reduceBEq, Nat.reduceMul, Nat.reduceSub, Int.reduceToNat, Int.reduceLE, Int.reduceLT, Int.reduceAdd, Int.reduceSub, Int.reduceMul, Int.reduceNeg, Int.reduceDiv, Int.reduceMod, Int.reduceTDiv, Int.reduceTMod, Int.reducePow, wakes_ans, k1, t1, v1, v2, r1, r2, hg1, hg2, hg3, encH_cells, q0] <;> (repeat' ((first | with_reducible refine brG_intro (fun hc => ?_) (fun hc => ?_) | with_reducible refine brC_intro (fun hc => ?_) (fun hc => ?_) | ((with_reducible refine c_opsD ?_); have hc := @List.length_nil Nat) | ((with_reducible refine c_opsT ?_); have hc := @List.length_nil Nat) | ((with_reducible refine and_crit ?_ ?_); rfl; have hc := @List.length_nil Nat) | ((with_reducible refine crit_done ?_); rfl) | ((with_reducible refine mkC_go (fun _ => ?_)); have hc := @List.length_nil Nat) | ((with_reducible refine mkL_go (fun _ => ?_)); have hc := @List.length_nil Nat)) <;> (try simp only [Bool.not_eq_true', Bool.not_eq_false', Bool.not_true, Bool.not_false] at hc) <;> (try simp only [hc, go_sem, reduceIte, Nat.reduceEqDiff, Nat.reduceAdd, Int.reduceEq, Nat.reduceLeDiff, Nat.reduceLT, Nat.reduceBEq, Nat.reduceMul, Nat.reduceSub, Int.reduceToNat, Int.reduceLE, Int.reduceLT, Int.reduceAdd, Int.reduceSub, Int.reduceMul, Int.reduceNeg, Int.reduceDiv, Int.reduceMod, Int.reduceTDiv, Int.reduceTMod, Int.reducePow, wakes_ans, k1, t1, v1, v2, r1, r2, hg1, hg2, hg3, encH_cells, q0]))))
  have q0' : o.is = true := by simpa using q0
  by_cases qc : lt6 h o ≤ 0
  · have e1 : rcvH o h = heardAs h := by rw [rcvH, if_pos (.inr (.inr qc))]
    have dc : decide (0 < lt6 h o) = false := decide_eq_false (by omega)
    rw [e1] at hg2
    rw [e1, rcv_again] at hg3
    simp only [heardAs] at hg2 hg3
    refine ans_go 1 1 il10_eq (Nat.le_of_ble_eq_true rfl) ?_
    (simp only [il10c, go_sem, reduceIte, Nat.reduceEqDiff, Nat.reduceAdd, Int.reduceEq, Nat.reduceLeDiff, Nat.reduceLT, Nat.reduceBEq, Nat.reduceMul, Nat.reduceSub, Int.reduceToNat, Int.reduceLE, Int.reduceLT, Int.reduceAdd, Int.reduceSub, Int.reduceMul, Int.reduceNeg, Int.reduceDiv, Int.reduceMod, Int.reduceTDiv, Int.reduceTMod, Int.reducePow, wakes_ans, k1, k2, t1, v1, v2, r1, r2, hg1, hg2, hg3, encH_cells, q0', dc] <;> (repeat' ((first | with_reducible refine brG_intro (fun hc => ?_) (fun hc => ?_) | with_reducible refine brC_intro (fun hc => ?_) (fun hc => ?_) | ((with_reducible refine c_opsD ?_); have hc := @List.length_nil Nat) | ((with_reducible refine c_opsT ?_); have hc := @List.length_nil Nat) | ((with_reducible refine and_crit ?_ ?_); rfl; have hc := @List.length_nil Nat) | ((with_reducible refine crit_done ?_); rfl) | ((with_reducible refine mkC_go (fun _ => ?_)); have hc := @List.length_nil Nat) | ((with_reducible refine mkL_go (fun _ => ?_)); have hc := @List.length_nil Nat)) <;> (try simp only [Bool.not_eq_true', Bool.not_eq_false', Bool.not_true, Bool.not_false] at hc) <;> (try simp only [hc, go_sem, reduceIte, Nat.reduceEqDiff, Nat.reduceAdd, Int.reduceEq, Nat.reduceLeDiff, Nat.reduceLT, Nat.reduceBEq, Nat.reduceMul, Nat.reduceSub, Int.reduceToNat, Int.reduceLE, Int.reduceLT, Int.reduceAdd, Int.reduceSub, Int.reduceMul, Int.reduceNeg, Int.reduceDiv, Int.reduceMod, Int.reduceTDiv, Int.reduceTMod, Int.reducePow, wakes_ans, k1, k2, t1, v1, v2, r1, r2, hg1, hg2, hg3, encH_cells, q0', dc]))))
  have dc : decide (0 < lt6 h o) = true := decide_eq_true (by omega)
  by_cases qs : (o.d = h.d ∧ o.e = h.e) ∧ o.f = h.f
  · have e1 : rcvH o h = heardAs h := by rw [rcvH, if_pos (.inr (.inl qs))]
    have da : decide (h.d = o.d ∧ h.e = o.e) = true := decide_eq_true ⟨qs.1.1.symm, qs.1.2.symm⟩
    have db : decide (h.f = o.f) = true := decide_eq_true qs.2.symm
    rw [e1] at hg2
    rw [e1, rcv_again] at hg3
    simp only [heardAs] at hg2 hg3
    refine ans_go 1 1 il10_eq (Nat.le_of_ble_eq_true rfl) ?_
    (simp only [il10c, go_sem, reduceIte, Nat.reduceEqDiff, Nat.reduceAdd, Int.reduceEq, Nat.reduceLeDiff, Nat.reduceLT, Nat.reduceBEq, Nat.reduceMul, Nat.reduceSub, Int.reduceToNat, Int.reduceLE, Int.reduceLT, Int.reduceAdd, Int.reduceSub, Int.reduceMul, Int.reduceNeg, Int.reduceDiv, Int.reduceMod, Int.reduceTDiv, Int.reduceTMod, Int.reducePow, wakes_ans, k1, k2, t1, v1, v2, r1, r2, hg1, hg2, hg3, encH_cells, q0', dc, da, db] <;> (repeat' ((first | with_reducible refine brG_intro (fun hc => ?_) (fun hc => ?_) | with_reducible refine brC_intro (fun hc => ?_) (fun hc => ?_) | ((with_reducible refine c_opsD ?_); have hc := @List.length_nil Nat) | ((with_reducible refine c_opsT ?_); have hc := @List.length_nil Nat) | ((with_reducible refine and_crit ?_ ?_); rfl; have hc := @List.length_nil Nat) | ((with_reducible refine crit_done ?_); rfl) | ((with_reducible refine mkC_go (fun _ => ?_)); have hc := @List.length_nil Nat) | ((with_reducible refine mkL_go (fun _ => ?_)); have hc := @List.length_nil Nat)) <;> (try simp only [Bool.not_eq_true', Bool.not_eq_false', Bool.not_true, Bool.not_false] at hc) <;> (try simp only [hc, go_sem, reduceIte, Nat.reduceEqDiff, Nat.reduceAdd, Int.reduceEq, Nat.reduceLeDiff, Nat.reduceLT, Nat.reduceBEq, Nat.reduceMul, Nat.reduceSub, Int.reduceToNat, Int.reduceLE, Int.reduceLT, Int.reduceAdd, Int.reduceSub, Int.reduceMul, Int.reduceNeg, Int.reduceDiv, Int.reduceMod, Int.reduceTDiv, Int.reduceTMod, Int.reducePow, wakes_ans, k1, k2, t1, v1, v2, r1, r2, hg1, hg2, hg3, encH_cells, q0', dc, da, db]))))
  have e1 : rcvH o h = o := by rw [rcvH, if_neg (by rintro (h1 | h1 | h1); exact q0 h1; exact qs h1; exact qc h1)]
  rw [e1] at hg2
  rw [e1, e1] at hg3
  refine ans_go 1 1 il10_eq (Nat.le_of_ble_eq_true rfl) ?_
  by_cases qa : h.d = o.d ∧ h.e = o.e
  · have da : decide (h.d = o.d ∧ h.e = o.e) = true := decide_eq_true qa
    have db : decide (h.f = o.f) = false := decide_eq_false (fun q => qs ⟨⟨qa.1.symm, qa.2.symm⟩, q.symm⟩)
    (simp only [il10c, go_sem, reduceIte, Nat.reduceEqDiff, Nat.reduceAdd, Int.reduceEq, Nat.reduceLeDiff, Nat.reduceLT, Nat.reduceBEq, Nat.reduceMul, Nat.reduceSub, Int.reduceToNat, Int.reduceLE, Int.reduceLT, Int.reduceAdd, Int.reduceSub, Int.reduceMul, Int.reduceNeg, Int.reduceDiv, Int.reduceMod, Int.reduceTDiv, Int.reduceTMod, Int.reducePow, wakes_ans, k1, k2, t1, v1, v2, r1, r2, hg1, hg2, hg3, encH_cells, q0', dc, da, db] <;> (repeat' ((first | with_reducible refine brG_intro (fun hc => ?_) (fun hc => ?_) | with_reducible refine brC_intro (fun hc => ?_) (fun hc => ?_) | ((with_reducible refine c_opsD ?_); have hc := @List.length_nil Nat) | ((with_reducible refine c_opsT ?_); have hc := @List.length_nil Nat) | ((with_reducible refine and_crit ?_ ?_); rfl; have hc := @List.length_nil Nat) | ((with_reducible refine crit_done ?_); rfl) | ((with_reducible refine mkC_go (fun _ => ?_)); have hc := @List.length_nil Nat) | ((with_reducible refine mkL_go (fun _ => ?_)); have hc := @List.length_nil Nat)) <;> (try simp only [Bool.not_eq_true', Bool.not_eq_false', Bool.not_true, Bool.not_false] at hc) <;> (try simp only [hc, go_sem, reduceIte, Nat.reduceEqDiff, Nat.reduceAdd, Int.reduceEq, Nat.reduceLeDiff, Nat.reduceLT, Nat.reduceBEq, Nat.reduceMul, Nat.reduceSub, Int.reduceToNat, Int.reduceLE, Int.reduceLT, Int.reduceAdd, Int.reduceSub, Int.reduceMul, Int.reduceNeg, Int.reduceDiv, Int.reduceMod, Int.reduceTDiv, Int.reduceTMod, Int.reducePow, wakes_ans, k1, k2, t1, v1, v2, r1, r2, hg1, hg2, hg3, encH_cells, q0', dc, da, db]))))
  · have da : decide (h.d = o.d ∧ h.e = o.e) = false := decide_eq_false qa
    (simp only [il10c, go_sem, reduceIte, Nat.reduceEqDiff, Nat.reduceAdd, Int.reduceEq, Nat.reduceLeDiff, Nat.reduceLT, Nat.reduceBEq, Nat.reduceMul, Nat.reduceSub, Int.reduceToNat, Int.reduceLE, Int.reduceLT, Int.reduceAdd, Int.reduceSub, Int.reduceMul, Int.reduceNeg, Int.reduceDiv, Int.reduceMod, Int.reduceTDiv, Int.reduceTMod, Int.reducePow, wakes_ans, k1, k2, t1, v1, v2, r1, r2, hg1, hg2, hg3, encH_cells, q0', dc, da] <;> (repeat' ((first | with_reducible refine brG_intro (fun hc => ?_) (fun hc => ?_) | with_reducible refine brC_intro (fun hc => ?_) (fun hc => ?_) | ((with_reducible refine c_opsD ?_); have hc := @List.length_nil Nat) | ((with_reducible refine c_opsT ?_); have hc := @List.length_nil Nat) | ((with_reducible refine and_crit ?_ ?_); rfl; have hc := @List.length_nil Nat) | ((with_reducible refine crit_done ?_); rfl) | ((with_reducible refine mkC_go (fun _ => ?_)); have hc := @List.length_nil Nat) | ((with_reducible refine mkL_go (fun _ => ?_)); have hc := @List.length_nil Nat)) <;> (try simp only [Bool.not_eq_true', Bool.not_eq_false', Bool.not_true, Bool.not_false] at hc) <;> (try simp only [hc, go_sem, reduceIte, Nat.reduceEqDiff, Nat.reduceAdd, Int.reduceEq, Nat.reduceLeDiff, Nat.reduceLT, Nat.reduceBEq, Nat.reduceMul, Nat.reduceSub, Int.reduceToNat, Int.reduceLE, Int.reduceLT, Int.reduceAdd, Int.reduceSub, Int.reduceMul, Int.reduceNeg, Int.reduceDiv, Int.reduceMod, Int.reduceTDiv, Int.reduceTMod, Int.reducePow, wakes_ans, k1, k2, t1, v1, v2, r1, r2, hg1, hg2, hg3, encH_cells, q0', dc, da]))))

end Go.Proofs.Ytcpaijajddaidaa
