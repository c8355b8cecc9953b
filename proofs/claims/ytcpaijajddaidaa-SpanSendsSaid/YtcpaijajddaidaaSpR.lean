/- The laws SpanRoots and SpanClaims. -/
import Derived.Test.YtcpaijajddaidaaSpQ
namespace Go.Proofs.Ytcpaijajddaidaa
open Go Go.Abs
set_option linter.unusedSimpArgs false
set_option linter.unusedVariables false
set_option maxRecDepth 100000
set_option maxHeartbeats 1000000

/-- What the root that a bridge knows of is like. -/
theorem top_spec {b : Br} (hb : okB b = true) : (opF b).t = tp0 b ∨ ∃ i : Nat, i < b.ports.length ∧ (opF b).t.via = i ∧ bidP (opF b).t.rp (opF b).t.rn ∧ lt2 (opF b).t.rp (opF b).t.rn b.p b.n ∧ (0 < (opF b).t.cost ∧ (opF b).t.cost ≤ 1048576) ∧ 0 ≤ (opF b).t.age ∧ (opF b).t.age ≤ 20 := by
  have hl := okB_len hb
  simp only [okL] at hl
  rcases opF_inv b with h | ⟨i, hi, hld, h⟩
  · exact .inl h
  · right
    rw [h]
    have h2 := okB_at hb (i := i) (by omega)
    rw [okAt, decide_eq_true_eq] at h2
    simp only [leads, Bool.and_eq_true, Bool.not_eq_true', decide_eq_false_iff_not, decide_eq_true_eq] at hld
    have hh := h2.2.2.2.1 hld.1.1
    have hc := h2.2.2.1
    simp only [helloP] at hh
    refine ⟨i, by omega, rfl, hh.1.1, hld.2, ?_, ?_⟩
    · have := hld.1.2
      simp only [ofr] at this ⊢
      omega
    · simp only [ofr]; omega
theorem bid_of {b : Br} (hb : okB b = true) : bidP b.p b.n := by
  rw [okB, Bool.and_eq_true, Bool.and_eq_true] at hb
  exact of_decide_eq_true hb.1.2
theorem clm_ok {b : Br} (hb : okB b = true) {i : Nat} (hi : i < b.ports.length) : helloP (clm b (opF b).t i) := by
  have h2 := okB_at hb hi
  rw [okAt, decide_eq_true_eq] at h2
  have hp := h2.1
  have hbid := bid_of hb
  rcases top_spec hb with h | ⟨j, h1, h3, h4, h5, h6, h7⟩
  · rw [h]
    simp only [helloP, clm, tp0]
    exact ⟨⟨hbid, hbid, by omega, by omega⟩, by omega⟩
  · simp only [helloP, clm]
    exact ⟨⟨h4, hbid, by omega, by omega⟩, by omega⟩

theorem spanClaims_ans (p n : Int) (l : List Ev) (hl : ∀ e ∈ l, okE e) (hll : l.length < 9223372036854775808) :
    ans Try.prog pol 8 [.agg [I p, I n], .sl false 9 (l.map encE)] = some (B true) := by
  by_cases hb : bidP p n
  rotate_left
  · obtain ⟨t, k1⟩ := lived_bad p n l hl hll hb
    have k2 := check_ans p n 0 0 0 0
    rw [if_neg (fun h => hb h.1)] at k2
    refine ans_go 1 1 il8_eq (Nat.le_of_ble_eq_true rfl) ?_
    cases t with
    | true =>
      simp only [lvT, if_true] at k1
      (simp only [il8c, go_sem, reduceIte, Nat.reduceEqDiff, Nat.reduceAdd, Int.reduceEq, Nat.reduceLeDiff, Nat.reduceLT, Nat.reduceBEq, Nat.reduceMul, Nat.reduceSub, Int.reduceToNat, Int.reduceLE, Int.reduceLT, Int.reduceAdd, Int.reduceSub, Int.reduceMul, Int.reduceNeg, Int.reduceDiv, Int.reduceMod, Int.reduceTDiv, Int.reduceTMod, Int.reducePow, wakes_ans, k1, k2] <;> (repeat' ((first | with_reducible refine brG_intro (fun hc => ?_) (fun hc => ?_) | with_reducible refine brC_intro (fun hc => ?_) (fun hc => ?_) | ((with_reducible refine c_opsD ?_); have hc := @List.length_nil Nat) | ((with_reducible refine c_opsT ?_); have hc := @List.length_nil Nat) | ((with_reducible refine and_crit ?_ ?_); rfl; have hc := @List.length_nil Nat) | ((with_reducible refine crit_done ?_); rfl) | ((with_reducible refine mkC_go (fun _ => ?_)); have hc := @List.length_nil Nat) | ((with_reducible refine mkL_go (fun _ => ?_)); have hc := @List.length_nil Nat)) <;> (try simp only [Bool.not_eq_true', Bool.not_eq_false', Bool.not_true, Bool.not_false] at hc) <;> (try simp only [hc, go_sem, reduceIte, Nat.reduceEqDiff, Nat.reduceAdd, Int.reduceEq, Nat.reduceLeDiff, Nat.reduceLT, Nat.reduceBEq, Nat.reduceMul, Nat.reduceSub, Int.reduceToNat, Int.reduceLE, Int.reduceLT, Int.reduceAdd, Int.reduceSub, Int.reduceMul, Int.reduceNeg, Int.reduceDiv, Int.reduceMod, Int.reduceTDiv, Int.reduceTMod, Int.reducePow, wakes_ans, k1, k2]))))
    | false =>
      simp only [lvT, Bool.false_eq_true, if_false] at k1
      (simp only [il8c, go_sem, reduceIte, Nat.reduceEqDiff, Nat.reduceAdd, Int.reduceEq, Nat.reduceLeDiff, Nat.reduceLT, Nat.reduceBEq, Nat.reduceMul, Nat.reduceSub, Int.reduceToNat, Int.reduceLE, Int.reduceLT, Int.reduceAdd, Int.reduceSub, Int.reduceMul, Int.reduceNeg, Int.reduceDiv, Int.reduceMod, Int.reduceTDiv, Int.reduceTMod, Int.reducePow, wakes_ans, k1, k2] <;> (repeat' ((first | with_reducible refine brG_intro (fun hc => ?_) (fun hc => ?_) | with_reducible refine brC_intro (fun hc => ?_) (fun hc => ?_) | ((with_reducible refine c_opsD ?_); have hc := @List.length_nil Nat) | ((with_reducible refine c_opsT ?_); have hc := @List.length_nil Nat) | ((with_reducible refine and_crit ?_ ?_); rfl; have hc := @List.length_nil Nat) | ((with_reducible refine crit_done ?_); rfl) | ((with_reducible refine mkC_go (fun _ => ?_)); have hc := @List.length_nil Nat) | ((with_reducible refine mkL_go (fun _ => ?_)); have hc := @List.length_nil Nat)) <;> (try simp only [Bool.not_eq_true', Bool.not_eq_false', Bool.not_true, Bool.not_false] at hc) <;> (try simp only [hc, go_sem, reduceIte, Nat.reduceEqDiff, Nat.reduceAdd, Int.reduceEq, Nat.reduceLeDiff, Nat.reduceLT, Nat.reduceBEq, Nat.reduceMul, Nat.reduceSub, Int.reduceToNat, Int.reduceLE, Int.reduceLT, Int.reduceAdd, Int.reduceSub, Int.reduceMul, Int.reduceNeg, Int.reduceDiv, Int.reduceMod, Int.reduceTDiv, Int.reduceTMod, Int.reducePow, wakes_ans, k1, k2]))))
  obtain ⟨b, hlv, k1⟩ := lived_ok p n l hl hll hb
  have hh4 := hlv.heard
  have hpl : b.ports.length = 4 := by rw [hlv.ports]; rfl
  have k2 := Roles_ok true true true b hlv.ok
  have k3 := Send_ok true true true b hlv.ok
  have k4 := Root_ok true true true b hlv.ok
  have hclm := fun i hi => clm_ok hlv.ok (i := i) hi
  have hbp := hlv.p
  have hbn := hlv.n
  have hsl : ((List.range b.ports.length).map (sentF b (opF b).t)).length = 4 := by simp [hpl]
  have hrl : ((List.range b.ports.length).map (roleF b (opF b).t)).length = 4 := by simp [hpl]
  have hsg : ∀ i x, ((List.range b.ports.length).map (sentF b (opF b).t))[i]? = some x → x = sentF b (opF b).t i := by
    intro i x hx
    rw [List.getElem?_map] at hx
    have hi : i < b.ports.length := by
      apply Decidable.byContradiction
      intro h
      rw [List.getElem?_eq_none (by simp; omega)] at hx
      simp at hx
    rw [List.getElem?_range hi] at hx
    simpa using hx.symm
  have hrg : ∀ i, i < 4 → (((List.range b.ports.length).map (roleF b (opF b).t)).map I)[i]? = some (I (roleF b (opF b).t i)) := by
    intro i hi
    rw [List.getElem?_map, List.getElem?_map, List.getElem?_range (by omega)]; rfl
  generalize (List.range b.ports.length).map (sentF b (opF b).t) = S at *
  generalize (List.range b.ports.length).map (roleF b (opF b).t) = RL at *
  generalize (opF b).t = t at *
  have e4 : decide (((S.length : Nat) : Int) = 4) = true := decide_eq_true (by omega)
  have e5 : decide (((RL.length : Nat) : Int) = 4) = true := decide_eq_true (by omega)
  refine ans_go 100 1 il8_eq (Nat.le_of_ble_eq_true rfl) ?_
  (simp only [il8c, go_sem, reduceIte, Nat.reduceEqDiff, Nat.reduceAdd, Int.reduceEq, Nat.reduceLeDiff, Nat.reduceLT, Nat.reduceBEq, Nat.reduceMul, Nat.reduceSub, Int.reduceToNat, Int.reduceLE, Int.reduceLT, Int.reduceAdd, Int.reduceSub, Int.reduceMul, Int.reduceNeg, Int.reduceDiv, Int.reduceMod, Int.reduceTDiv, Int.reduceTMod, Int.reducePow, wakes_ans, k1, k2, k3, k4, e4, e5] <;> (repeat' ((first | with_reducible refine brG_intro (fun hc => ?_) (fun hc => ?_) | with_reducible refine brC_intro (fun hc => ?_) (fun hc => ?_) | ((with_reducible refine c_opsD ?_); have hc := @List.length_nil Nat) | ((with_reducible refine c_opsT ?_); have hc := @List.length_nil Nat) | ((with_reducible refine and_crit ?_ ?_); rfl; have hc := @List.length_nil Nat) | ((with_reducible refine crit_done ?_); rfl) | ((with_reducible refine mkC_go (fun _ => ?_)); have hc := @List.length_nil Nat) | ((with_reducible refine mkL_go (fun _ => ?_)); have hc := @List.length_nil Nat)) <;> (try simp only [Bool.not_eq_true', Bool.not_eq_false', Bool.not_true, Bool.not_false] at hc) <;> (try simp only [hc, go_sem, reduceIte, Nat.reduceEqDiff, Nat.reduceAdd, Int.reduceEq, Nat.reduceLeDiff, Nat.reduceLT, Nat.reduceBEq, Nat.reduceMul, Nat.reduceSub, Int.reduceToNat, Int.reduceLE, Int.reduceLT, Int.reduceAdd, Int.reduceSub, Int.reduceMul, Int.reduceNeg, Int.reduceDiv, Int.reduceMod, Int.reduceTDiv, Int.reduceTMod, Int.reducePow, wakes_ans, k1, k2, k3, k4, e4, e5]))))
  refine loop_range S encH (step := fun _ _ (_ : Unit) => Ctl.go ()) (fin := id)
    (St := fun i _ e h => (e 2 = .t (.ip [I p, I n]) ∧ e 5 = .ref 0 1 0 0 ∧ e 7 = .t (.sl true 1 (RL.map I)) ∧ e 11 = .ref 1 1 0 0 ∧ e 12 = .t (I t.cost) ∧ e 69 = .t (.sl true 8 (S.map encH)) ∧ e 70 = .t (I (S.length : Nat)) ∧ e 71 = .t (I (i : Nat))) ∧ h = [.row 5 [.t (brT true true true b)] 1, .row 2 [.t (.agg [I t.rp, I t.rn])] 1])
    (Ex := fun _ x e h => x = .exit 0) (s := ()) (by omega) ?_ ?_ (by omega) ?_ ?_
  · intro i x _ e h Y R hm hi hx hget hlt hw ⟨hs, hh⟩ hk
    subst hh
    simp only [ctlK_go] at hk
    have hi4 : i < 4 := by omega
    have hxs := hsg i x hx
    have hr := hrg i hi4
    have hpg : (b.ports.map I)[i]? = some (I (prt b i)) := by simp [prt, show i < b.ports.length by omega]
    have hH : (b.heard.map encH)[i]? = some (encH (hrd b i)) := by simp [hrd, show i < b.heard.length by omega]
    by_cases q : roleF b t i = 2
    · have d1 : decide (roleF b t i = 2) = true := decide_eq_true q
      have k5 := helloC_ok (hclm i (by omega))
      have k6 := compH_ans (clm b t i) (hrd b i)
      have hcmp : (hrd b i).is = true → lt6 (clm b t i) (hrd b i) < 0 := by
        intro his
        rw [roleF] at q
        split at q
        · omega
        · split at q
          · rename_i h
            rcases h with h | h
            · rw [his] at h; exact (by cases h)
            · exact h
          · omega
      have hx2 : x = clm b t i := by rw [hxs, sentF, if_pos q]
      subst hx2
      simp only [encH, clm, hbp, hbn] at hget k5
      generalize hC : lt6 (clm b t i) (hrd b i) = cc at *
      simp only [clm, hbp, hbn] at k6
      generalize roleF b t i = rr at *
      subst q
      by_cases q2 : (hrd b i).is = true
      · have d3 : decide (0 ≤ cc) = false := decide_eq_false (by have := hcmp q2; omega)
        (simp only [il8l0_go, il8l0b, go_sem, reduceIte, Nat.reduceEqDiff, Nat.reduceAdd, Int.reduceEq, Nat.reduceLeDiff, Nat.reduceLT, Nat.reduceBEq, Nat.reduceMul, Nat.reduceSub, Int.reduceToNat, Int.reduceLE, Int.reduceLT, Int.reduceAdd, Int.reduceSub, Int.reduceMul, Int.reduceNeg, Int.reduceDiv, Int.reduceMod, Int.reduceTDiv, Int.reduceTMod, Int.reducePow, hs, hget, hlt, hr, hpg, hH, encH_cells, k5, k6, q2, d3, hw] <;> (repeat' ((first | with_reducible refine brG_intro (fun hc => ?_) (fun hc => ?_) | with_reducible refine brC_intro (fun hc => ?_) (fun hc => ?_) | ((with_reducible refine c_opsD ?_); have hc := @List.length_nil Nat) | ((with_reducible refine c_opsT ?_); have hc := @List.length_nil Nat) | ((with_reducible refine and_crit ?_ ?_); rfl; have hc := @List.length_nil Nat) | ((with_reducible refine crit_done ?_); rfl) | ((with_reducible refine mkC_go (fun _ => ?_)); have hc := @List.length_nil Nat) | ((with_reducible refine mkL_go (fun _ => ?_)); have hc := @List.length_nil Nat)) <;> (try simp only [Bool.not_eq_true', Bool.not_eq_false', Bool.not_true, Bool.not_false] at hc) <;> (try simp only [hc, go_sem, reduceIte, Nat.reduceEqDiff, Nat.reduceAdd, Int.reduceEq, Nat.reduceLeDiff, Nat.reduceLT, Nat.reduceBEq, Nat.reduceMul, Nat.reduceSub, Int.reduceToNat, Int.reduceLE, Int.reduceLT, Int.reduceAdd, Int.reduceSub, Int.reduceMul, Int.reduceNeg, Int.reduceDiv, Int.reduceMod, Int.reduceTDiv, Int.reduceTMod, Int.reducePow, hs, hget, hlt, hr, hpg, hH, encH_cells, k5, k6, q2, d3, hw]))))
        all_goals (refine hk _ _ ⟨?_, rfl⟩; simp only [go_sem, reduceIte, Nat.reduceEqDiff, Nat.reduceAdd, Int.reduceEq, Nat.reduceLeDiff, Nat.reduceLT, Nat.reduceBEq, Nat.reduceMul, Nat.reduceSub, Int.reduceToNat, Int.reduceLE, Int.reduceLT, Int.reduceAdd, Int.reduceSub, Int.reduceMul, Int.reduceNeg, Int.reduceDiv, Int.reduceMod, Int.reduceTDiv, Int.reduceTMod, Int.reducePow, hs, hw])
      · have q2' : (hrd b i).is = false := by simpa using q2
        (simp only [il8l0_go, il8l0b, go_sem, reduceIte, Nat.reduceEqDiff, Nat.reduceAdd, Int.reduceEq, Nat.reduceLeDiff, Nat.reduceLT, Nat.reduceBEq, Nat.reduceMul, Nat.reduceSub, Int.reduceToNat, Int.reduceLE, Int.reduceLT, Int.reduceAdd, Int.reduceSub, Int.reduceMul, Int.reduceNeg, Int.reduceDiv, Int.reduceMod, Int.reduceTDiv, Int.reduceTMod, Int.reducePow, hs, hget, hlt, hr, hpg, hH, encH_cells, k5, q2', hw] <;> (repeat' ((first | with_reducible refine brG_intro (fun hc => ?_) (fun hc => ?_) | with_reducible refine brC_intro (fun hc => ?_) (fun hc => ?_) | ((with_reducible refine c_opsD ?_); have hc := @List.length_nil Nat) | ((with_reducible refine c_opsT ?_); have hc := @List.length_nil Nat) | ((with_reducible refine and_crit ?_ ?_); rfl; have hc := @List.length_nil Nat) | ((with_reducible refine crit_done ?_); rfl) | ((with_reducible refine mkC_go (fun _ => ?_)); have hc := @List.length_nil Nat) | ((with_reducible refine mkL_go (fun _ => ?_)); have hc := @List.length_nil Nat)) <;> (try simp only [Bool.not_eq_true', Bool.not_eq_false', Bool.not_true, Bool.not_false] at hc) <;> (try simp only [hc, go_sem, reduceIte, Nat.reduceEqDiff, Nat.reduceAdd, Int.reduceEq, Nat.reduceLeDiff, Nat.reduceLT, Nat.reduceBEq, Nat.reduceMul, Nat.reduceSub, Int.reduceToNat, Int.reduceLE, Int.reduceLT, Int.reduceAdd, Int.reduceSub, Int.reduceMul, Int.reduceNeg, Int.reduceDiv, Int.reduceMod, Int.reduceTDiv, Int.reduceTMod, Int.reducePow, hs, hget, hlt, hr, hpg, hH, encH_cells, k5, q2', hw]))))
        all_goals (refine hk _ _ ⟨?_, rfl⟩; simp only [go_sem, reduceIte, Nat.reduceEqDiff, Nat.reduceAdd, Int.reduceEq, Nat.reduceLeDiff, Nat.reduceLT, Nat.reduceBEq, Nat.reduceMul, Nat.reduceSub, Int.reduceToNat, Int.reduceLE, Int.reduceLT, Int.reduceAdd, Int.reduceSub, Int.reduceMul, Int.reduceNeg, Int.reduceDiv, Int.reduceMod, Int.reduceTDiv, Int.reduceTMod, Int.reducePow, hs, hw])
    · have d1 : decide (roleF b t i = 2) = false := decide_eq_false q
      have hx2 : x = zH := by rw [hxs, sentF, if_neg q]
      subst hx2
      simp only [encH, zH] at hget
      (simp only [il8l0_go, il8l0b, go_sem, reduceIte, Nat.reduceEqDiff, Nat.reduceAdd, Int.reduceEq, Nat.reduceLeDiff, Nat.reduceLT, Nat.reduceBEq, Nat.reduceMul, Nat.reduceSub, Int.reduceToNat, Int.reduceLE, Int.reduceLT, Int.reduceAdd, Int.reduceSub, Int.reduceMul, Int.reduceNeg, Int.reduceDiv, Int.reduceMod, Int.reduceTDiv, Int.reduceTMod, Int.reducePow, hs, hget, hlt, hr, d1, hw] <;> (repeat' ((first | with_reducible refine brG_intro (fun hc => ?_) (fun hc => ?_) | with_reducible refine brC_intro (fun hc => ?_) (fun hc => ?_) | ((with_reducible refine c_opsD ?_); have hc := @List.length_nil Nat) | ((with_reducible refine c_opsT ?_); have hc := @List.length_nil Nat) | ((with_reducible refine and_crit ?_ ?_); rfl; have hc := @List.length_nil Nat) | ((with_reducible refine crit_done ?_); rfl) | ((with_reducible refine mkC_go (fun _ => ?_)); have hc := @List.length_nil Nat) | ((with_reducible refine mkL_go (fun _ => ?_)); have hc := @List.length_nil Nat)) <;> (try simp only [Bool.not_eq_true', Bool.not_eq_false', Bool.not_true, Bool.not_false] at hc) <;> (try simp only [hc, go_sem, reduceIte, Nat.reduceEqDiff, Nat.reduceAdd, Int.reduceEq, Nat.reduceLeDiff, Nat.reduceLT, Nat.reduceBEq, Nat.reduceMul, Nat.reduceSub, Int.reduceToNat, Int.reduceLE, Int.reduceLT, Int.reduceAdd, Int.reduceSub, Int.reduceMul, Int.reduceNeg, Int.reduceDiv, Int.reduceMod, Int.reduceTDiv, Int.reduceTMod, Int.reducePow, hs, hget, hlt, hr, d1, hw]))))
      all_goals (refine hk _ _ ⟨?_, rfl⟩; simp only [go_sem, reduceIte, Nat.reduceEqDiff, Nat.reduceAdd, Int.reduceEq, Nat.reduceLeDiff, Nat.reduceLT, Nat.reduceBEq, Nat.reduceMul, Nat.reduceSub, Int.reduceToNat, Int.reduceLE, Int.reduceLT, Int.reduceAdd, Int.reduceSub, Int.reduceMul, Int.reduceNeg, Int.reduceDiv, Int.reduceMod, Int.reduceTDiv, Int.reduceTMod, Int.reducePow, hs, hw])
  · intro _ e h Y R hlt ⟨hs, hh⟩ hk
    subst hh
    (simp only [il8l0_go, il8l0b, go_sem, reduceIte, Nat.reduceEqDiff, Nat.reduceAdd, Int.reduceEq, Nat.reduceLeDiff, Nat.reduceLT, Nat.reduceBEq, Nat.reduceMul, Nat.reduceSub, Int.reduceToNat, Int.reduceLE, Int.reduceLT, Int.reduceAdd, Int.reduceSub, Int.reduceMul, Int.reduceNeg, Int.reduceDiv, Int.reduceMod, Int.reduceTDiv, Int.reduceTMod, Int.reducePow, hs, hlt] <;> (repeat' ((first | with_reducible refine brG_intro (fun hc => ?_) (fun hc => ?_) | with_reducible refine brC_intro (fun hc => ?_) (fun hc => ?_) | ((with_reducible refine c_opsD ?_); have hc := @List.length_nil Nat) | ((with_reducible refine c_opsT ?_); have hc := @List.length_nil Nat) | ((with_reducible refine and_crit ?_ ?_); rfl; have hc := @List.length_nil Nat) | ((with_reducible refine crit_done ?_); rfl) | ((with_reducible refine mkC_go (fun _ => ?_)); have hc := @List.length_nil Nat) | ((with_reducible refine mkL_go (fun _ => ?_)); have hc := @List.length_nil Nat)) <;> (try simp only [Bool.not_eq_true', Bool.not_eq_false', Bool.not_true, Bool.not_false] at hc) <;> (try simp only [hc, go_sem, reduceIte, Nat.reduceEqDiff, Nat.reduceAdd, Int.reduceEq, Nat.reduceLeDiff, Nat.reduceLT, Nat.reduceBEq, Nat.reduceMul, Nat.reduceSub, Int.reduceToNat, Int.reduceLE, Int.reduceLT, Int.reduceAdd, Int.reduceSub, Int.reduceMul, Int.reduceNeg, Int.reduceDiv, Int.reduceMod, Int.reduceTDiv, Int.reduceTMod, Int.reducePow, hs, hlt]))))
    all_goals exact hk _ _ _ rfl
  · refine ⟨?_, rfl⟩
    simp only [go_sem, reduceIte, Nat.reduceEqDiff, Nat.reduceAdd, Int.reduceEq, Nat.reduceLeDiff, Nat.reduceLT, Nat.reduceBEq, Nat.reduceMul, Nat.reduceSub, Int.reduceToNat, Int.reduceLE, Int.reduceLT, Int.reduceAdd, Int.reduceSub, Int.reduceMul, Int.reduceNeg, Int.reduceDiv, Int.reduceMod, Int.reduceTDiv, Int.reduceTMod, Int.reducePow]
  · intro x e h h2
    subst h2
    (simp only [il8c, go_sem, reduceIte, Nat.reduceEqDiff, Nat.reduceAdd, Int.reduceEq, Nat.reduceLeDiff, Nat.reduceLT, Nat.reduceBEq, Nat.reduceMul, Nat.reduceSub, Int.reduceToNat, Int.reduceLE, Int.reduceLT, Int.reduceAdd, Int.reduceSub, Int.reduceMul, Int.reduceNeg, Int.reduceDiv, Int.reduceMod, Int.reduceTDiv, Int.reduceTMod, Int.reducePow] <;> (repeat' ((first | with_reducible refine brG_intro (fun hc => ?_) (fun hc => ?_) | with_reducible refine brC_intro (fun hc => ?_) (fun hc => ?_) | ((with_reducible refine c_opsD ?_); have hc := @List.length_nil Nat) | ((with_reducible refine c_opsT ?_); have hc := @List.length_nil Nat) | ((with_reducible refine and_crit ?_ ?_); rfl; have hc := @List.length_nil Nat) | ((with_reducible refine crit_done ?_); rfl) | ((with_reducible refine mkC_go (fun _ => ?_)); have hc := @List.length_nil Nat) | ((with_reducible refine mkL_go (fun _ => ?_)); have hc := @List.length_nil Nat)) <;> (try simp only [Bool.not_eq_true', Bool.not_eq_false', Bool.not_true, Bool.not_false] at hc) <;> (try simp only [hc, go_sem, reduceIte, Nat.reduceEqDiff, Nat.reduceAdd, Int.reduceEq, Nat.reduceLeDiff, Nat.reduceLT, Nat.reduceBEq, Nat.reduceMul, Nat.reduceSub, Int.reduceToNat, Int.reduceLE, Int.reduceLT, Int.reduceAdd, Int.reduceSub, Int.reduceMul, Int.reduceNeg, Int.reduceDiv, Int.reduceMod, Int.reduceTDiv, Int.reduceTMod, Int.reducePow]))))

end Go.Proofs.Ytcpaijajddaidaa
