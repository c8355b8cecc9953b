/- The law AuditFirst: where a note has a fault. -/
import Derived.Test.YthcaepnclhgkmaaDoorAuN
namespace Go.Proofs.YthcaepnclhgkmaaDoor
open Go Go.Abs
set_option linter.unusedSimpArgs false
set_option linter.unusedVariables false
set_option maxRecDepth 100000
set_option maxHeartbeats 4000000

theorem auditFirst_some (w : List Wi) (m more : List Mv) (hwl : w.length < 9223372036854775808) (hw : ∀ x ∈ w, okW x) (hm : ∀ x ∈ m, okM x) (hmo : ∀ x ∈ more, okM x) {k : Int} {i : Nat} {x : Nt} (hn : refF (someF 0 w) [] (logF 0 0 (m.take 100)) = some (k, i, x)) :
    ans Tryd.prog pol 6 [.sl false 3 (w.map encW), .sl false 5 (m.map encM), .sl false 5 (more.map encM)] = some (B true) := by
  have m3 : (if (100 : Int) < (m.length : Nat) then 100 else ((m.length : Nat) : Int)) = ((min m.length 100 : Nat) : Int) := min_k _ 100
  have m4 : (if (50 : Int) < (more.length : Nat) then 50 else ((more.length : Nat) : Int)) = ((min more.length 50 : Nat) : Int) := min_k _ 50
  have l3 : min m.length 100 ≤ m.length := Nat.min_le_left _ _
  have l4 : min more.length 50 ≤ more.length := Nat.min_le_left _ _
  have t3 := take_min (enc := encM) m 100
  have t4 := take_min (enc := encM) more 50
  have h3 : (m.take 100).length ≤ 100 := by simp; omega
  have h4 : (more.take 50).length ≤ 50 := by simp; omega
  have hm' : ∀ x ∈ m.take 100, okM x := fun x hx => hm x (List.mem_of_mem_take hx)
  have hq' : ∀ x ∈ more.take 50, okM x := fun x hx => hmo x (List.mem_of_mem_take hx)
  generalize m.take 100 = m' at t3 h3 hm' hn
  generalize more.take 50 = q at t4 h4 hq'
  have c1 := some_ans w hwl hw
  have hS := some_ok w 0 hw (by omega)
  have c2 := log_ans m' (by omega) hm'
  obtain ⟨hLc, hL, hLt⟩ := log_ok m' 0 0 hm' (by omega) (by omega) (by omega)
  have hall : ∀ x ∈ m' ++ q, okM x := fun x hx => by
    rw [List.mem_append] at hx
    rcases hx with hx | hx
    · exact hm' x hx
    · exact hq' x hx
  obtain ⟨hAc, hA, hAt⟩ := log_ok (m' ++ q) 0 0 hall (by omega) (by omega) (by omega)
  obtain ⟨r, hr⟩ := logF_app m' q 0 0 (by omega)
  have hm0 : ∃ a m'', m' = a :: m'' := by
    cases m' with
    | nil => simp [logF, refF] at hn
    | cons a m'' => exact ⟨a, m'', rfl⟩
  generalize hS0 : someF 0 w = S at c1 hS hn
  generalize hL0 : logF 0 0 m' = L at c2 hLc hL hLt hn hr
  generalize hA0 : logF 0 0 (m' ++ q) = A at hAc hA hAt hr
  have hS' : S.length ≤ 12 ∧ chkR 0 S = true := ⟨by omega, hS.1⟩
  have hLt' : ∀ x ∈ L, x.t ≤ 51000 ∧ 0 ≤ x.t := fun x hx => ⟨(hLt x hx).1, (hLt x hx).2.1⟩
  have hAt' : ∀ x ∈ A, x.t ≤ 51000 ∧ 0 ≤ x.t := fun x hx => ⟨(hAt x hx).1, (hAt x hx).2.1⟩
  obtain ⟨hk17, _, hil, _⟩ := refF_range _ _ hn
  simp only [List.length_nil, Nat.zero_add] at hil
  have k1 := aud_part hS' hLc (by omega) hLt' false false 1099511627776 (by have := lastT_rng hLt'; omega)
  rw [refT_some hn, fltT] at k1
  have hnA : refF S [] A = some (k, i, x) := by rw [hr]; exact refF_app _ _ _ hn
  have k2 := aud_part hS' hAc (by omega) hAt' false false 1099511627776 (by have := lastT_rng hAt'; omega)
  rw [refT_some hnA, fltT] at k2
  have hn' : refF S [] L = some (k, ([] : List Nt).length + i, x) := by simpa using hn
  obtain ⟨g1, g2⟩ := refF_take _ _ hn'
  simp only [List.length_nil, Nat.zero_add] at g2
  have b1 : ∀ x ∈ L.take i, x.t ≤ 51000 ∧ 0 ≤ x.t := fun x hx => hLt' x (List.mem_of_mem_take hx)
  have b2 : ∀ x ∈ L.take (i + 1), x.t ≤ 51000 ∧ 0 ≤ x.t := fun x hx => hLt' x (List.mem_of_mem_take hx)
  obtain ⟨a2, bb2, cc2, dd2, hf2, ha2⟩ := refT_none (end_ := lastT (L.take i)) g1
  have k3 := aud_part hS' (chkN_take hLc i) (by simp; omega) b1 false false (lastT (L.take i)) (by have := lastT_rng b1; omega)
  rw [hf2] at k3
  have k4 := aud_part hS' (chkN_take hLc (i + 1)) (by simp; omega) b2 false false (lastT (L.take (i + 1))) (by have := lastT_rng b2; omega)
  rw [refT_some g2, fltT] at k4
  have k5 := last_ans false (L.take i) (by simp; omega)
  have k6 := last_ans false (L.take (i + 1)) (by simp; omega)
  have w1 : IntKind.i64.wrap ((i : Int) + 1) = ((i + 1 : Nat) : Int) := by rw [wrap_i64 (by omega) (by omega)]; rfl
  have e1 : i ≤ L.length := by omega
  have e2 : i + 1 ≤ L.length := by omega
  have tk1 : (L.map encN).take i = (L.take i).map encN := by rw [List.map_take]
  have tk2 : (L.map encN).take (i + 1) = (L.take (i + 1)).map encN := by rw [List.map_take]
  have d1 : decide (k = 0) = false := decide_eq_false (by omega)
  have d2 : decide (k = 8) = false := decide_eq_false (by omega)
  obtain ⟨a, m'', rfl⟩ := hm0
  simp only [List.length_cons] at h3
  have r1 : (m''.length + 1) * 5 ≤ roomB := ap_room (by omega) (by omega)
  obtain ⟨nn, hnn⟩ : ∃ n : Nat, 3000 < n := ⟨3001, by omega⟩
  have fin : ∀ (Q : AV → Heap → Prop) (h0 : Heap), h0 = [.row 4 [.t (.agg [J k, J (i : Nat), J x.s, J x.q])] 1, .row 5 (((a :: m'' ++ q).map encM).map .t) 0] →
      Q (.ms 2 A.length 0 A.length 4 false) [.row 4 [.t (.agg [J k, J (i : Nat), J x.s, J x.q])] 1, .row 5 (((a :: m'' ++ q).map encM).map .t) 0, rowG 4 encN A] →
      oB (inl Tryd.prog pol (ans Tryd.prog pol) nn 2 (.fn 11) [.ms 1 (a :: m'' ++ q).length 0 (a :: m'' ++ q).length 5 false] h0) Q := by
    intro Q h0 hh hQ
    have := log_in (.agg [J k, J (i : Nat), J x.s, J x.q]) (a :: m'' ++ q) 0 (Nat.zero_le _) (by simp; omega) hall nn 1 (by omega) h0 hh Q
    rw [hA0] at this
    exact this hQ
  simp only [List.map_cons] at c2
  have tl : ∀ (e : FEnv), True := fun _ => trivial
  cases q with
  | nil =>
    simp only [List.append_nil, List.length_cons, List.map_cons] at fin
    rcases ha2 with rfl | rfl
    all_goals refine ans_go nn 2 il6_eq (Nat.le_of_ble_eq_true rfl) ?_
    all_goals (simp only [il6c, go_sem, reduceIte, Nat.reduceEqDiff, Nat.reduceAdd, Int.reduceEq, Nat.reduceLeDiff, Nat.reduceLT, Nat.reduceBEq, Nat.reduceMul, Nat.reduceSub, Int.reduceToNat, Int.reduceLE, Int.reduceLT, Int.reduceAdd, Int.reduceSub, Int.reduceMul, Int.reduceNeg, Int.reduceDiv, Int.reduceMod, Int.reduceTDiv, Int.reduceTMod, Int.reducePow, works44_ans, c1, c2, m3, m4, l3, l4, t3, t4, k1, d1, d2, r1] <;> (repeat' ((first | with_reducible refine brG_intro (fun hc => ?_) (fun hc => ?_) | with_reducible refine brC_intro (fun hc => ?_) (fun hc => ?_) | ((with_reducible refine c_opsD ?_); have hc := @List.length_nil Nat) | ((with_reducible refine c_opsT ?_); have hc := @List.length_nil Nat) | ((with_reducible refine and_crit ?_ ?_); rfl; have hc := @List.length_nil Nat) | ((with_reducible refine crit_done ?_); rfl) | ((with_reducible refine mkC_go (fun _ => ?_)); have hc := @List.length_nil Nat) | ((with_reducible refine mkL_go (fun _ => ?_)); have hc := @List.length_nil Nat)) <;> (try simp only [Bool.not_eq_true', Bool.not_eq_false', Bool.not_true, Bool.not_false] at hc) <;> (try simp only [hc, go_sem, reduceIte, Nat.reduceEqDiff, Nat.reduceAdd, Int.reduceEq, Nat.reduceLeDiff, Nat.reduceLT, Nat.reduceBEq, Nat.reduceMul, Nat.reduceSub, Int.reduceToNat, Int.reduceLE, Int.reduceLT, Int.reduceAdd, Int.reduceSub, Int.reduceMul, Int.reduceNeg, Int.reduceDiv, Int.reduceMod, Int.reduceTDiv, Int.reduceTMod, Int.reducePow, works44_ans, c1, c2, m3, m4, l3, l4, t3, t4, k1, d1, d2, r1]))))
    all_goals with_reducible refine fin _ _ ?_ ?_
    all_goals first | rfl | skip
    all_goals (simp only [il6c, go_sem, reduceIte, Nat.reduceEqDiff, Nat.reduceAdd, Int.reduceEq, Nat.reduceLeDiff, Nat.reduceLT, Nat.reduceBEq, Nat.reduceMul, Nat.reduceSub, Int.reduceToNat, Int.reduceLE, Int.reduceLT, Int.reduceAdd, Int.reduceSub, Int.reduceMul, Int.reduceNeg, Int.reduceDiv, Int.reduceMod, Int.reduceTDiv, Int.reduceTMod, Int.reducePow, k1, k2, k3, k4, k5, k6, w1, e1, e2, tk1, tk2, d1, d2, rowG_is, rowG_es, rowG_mr] <;> (repeat' ((first | with_reducible refine brG_intro (fun hc => ?_) (fun hc => ?_) | with_reducible refine brC_intro (fun hc => ?_) (fun hc => ?_) | ((with_reducible refine c_opsD ?_); have hc := @List.length_nil Nat) | ((with_reducible refine c_opsT ?_); have hc := @List.length_nil Nat) | ((with_reducible refine and_crit ?_ ?_); rfl; have hc := @List.length_nil Nat) | ((with_reducible refine crit_done ?_); rfl) | ((with_reducible refine mkC_go (fun _ => ?_)); have hc := @List.length_nil Nat) | ((with_reducible refine mkL_go (fun _ => ?_)); have hc := @List.length_nil Nat)) <;> (try simp only [Bool.not_eq_true', Bool.not_eq_false', Bool.not_true, Bool.not_false] at hc) <;> (try simp only [hc, go_sem, reduceIte, Nat.reduceEqDiff, Nat.reduceAdd, Int.reduceEq, Nat.reduceLeDiff, Nat.reduceLT, Nat.reduceBEq, Nat.reduceMul, Nat.reduceSub, Int.reduceToNat, Int.reduceLE, Int.reduceLT, Int.reduceAdd, Int.reduceSub, Int.reduceMul, Int.reduceNeg, Int.reduceDiv, Int.reduceMod, Int.reduceTDiv, Int.reduceTMod, Int.reducePow, k1, k2, k3, k4, k5, k6, w1, e1, e2, tk1, tk2, d1, d2, rowG_is, rowG_es, rowG_mr]))))
  | cons b q' =>
    simp only [List.length_cons] at h4
    have r2 : (m''.length + 1 + (q'.length + 1)) * 5 ≤ roomB := ap_room (by omega) (by omega)
    simp only [List.cons_append, List.length_cons, List.length_append, List.map_cons, List.map_append] at fin
    have el : m''.length + (q'.length + 1) + 1 = m''.length + 1 + (q'.length + 1) := by omega
    rw [el] at fin
    rcases ha2 with rfl | rfl
    all_goals refine ans_go nn 2 il6_eq (Nat.le_of_ble_eq_true rfl) ?_
    all_goals (simp only [il6c, go_sem, reduceIte, Nat.reduceEqDiff, Nat.reduceAdd, Int.reduceEq, Nat.reduceLeDiff, Nat.reduceLT, Nat.reduceBEq, Nat.reduceMul, Nat.reduceSub, Int.reduceToNat, Int.reduceLE, Int.reduceLT, Int.reduceAdd, Int.reduceSub, Int.reduceMul, Int.reduceNeg, Int.reduceDiv, Int.reduceMod, Int.reduceTDiv, Int.reduceTMod, Int.reducePow, works44_ans, c1, c2, m3, m4, l3, l4, t3, t4, k1, d1, d2, r1, r2] <;> (repeat' ((first | with_reducible refine brG_intro (fun hc => ?_) (fun hc => ?_) | with_reducible refine brC_intro (fun hc => ?_) (fun hc => ?_) | ((with_reducible refine c_opsD ?_); have hc := @List.length_nil Nat) | ((with_reducible refine c_opsT ?_); have hc := @List.length_nil Nat) | ((with_reducible refine and_crit ?_ ?_); rfl; have hc := @List.length_nil Nat) | ((with_reducible refine crit_done ?_); rfl) | ((with_reducible refine mkC_go (fun _ => ?_)); have hc := @List.length_nil Nat) | ((with_reducible refine mkL_go (fun _ => ?_)); have hc := @List.length_nil Nat)) <;> (try simp only [Bool.not_eq_true', Bool.not_eq_false', Bool.not_true, Bool.not_false] at hc) <;> (try simp only [hc, go_sem, reduceIte, Nat.reduceEqDiff, Nat.reduceAdd, Int.reduceEq, Nat.reduceLeDiff, Nat.reduceLT, Nat.reduceBEq, Nat.reduceMul, Nat.reduceSub, Int.reduceToNat, Int.reduceLE, Int.reduceLT, Int.reduceAdd, Int.reduceSub, Int.reduceMul, Int.reduceNeg, Int.reduceDiv, Int.reduceMod, Int.reduceTDiv, Int.reduceTMod, Int.reducePow, works44_ans, c1, c2, m3, m4, l3, l4, t3, t4, k1, d1, d2, r1, r2]))))
    all_goals with_reducible refine fin _ _ ?_ ?_
    all_goals first | rfl | skip
    all_goals (simp only [il6c, go_sem, reduceIte, Nat.reduceEqDiff, Nat.reduceAdd, Int.reduceEq, Nat.reduceLeDiff, Nat.reduceLT, Nat.reduceBEq, Nat.reduceMul, Nat.reduceSub, Int.reduceToNat, Int.reduceLE, Int.reduceLT, Int.reduceAdd, Int.reduceSub, Int.reduceMul, Int.reduceNeg, Int.reduceDiv, Int.reduceMod, Int.reduceTDiv, Int.reduceTMod, Int.reducePow, k1, k2, k3, k4, k5, k6, w1, e1, e2, tk1, tk2, d1, d2, rowG_is, rowG_es, rowG_mr] <;> (repeat' ((first | with_reducible refine brG_intro (fun hc => ?_) (fun hc => ?_) | with_reducible refine brC_intro (fun hc => ?_) (fun hc => ?_) | ((with_reducible refine c_opsD ?_); have hc := @List.length_nil Nat) | ((with_reducible refine c_opsT ?_); have hc := @List.length_nil Nat) | ((with_reducible refine and_crit ?_ ?_); rfl; have hc := @List.length_nil Nat) | ((with_reducible refine crit_done ?_); rfl) | ((with_reducible refine mkC_go (fun _ => ?_)); have hc := @List.length_nil Nat) | ((with_reducible refine mkL_go (fun _ => ?_)); have hc := @List.length_nil Nat)) <;> (try simp only [Bool.not_eq_true', Bool.not_eq_false', Bool.not_true, Bool.not_false] at hc) <;> (try simp only [hc, go_sem, reduceIte, Nat.reduceEqDiff, Nat.reduceAdd, Int.reduceEq, Nat.reduceLeDiff, Nat.reduceLT, Nat.reduceBEq, Nat.reduceMul, Nat.reduceSub, Int.reduceToNat, Int.reduceLE, Int.reduceLT, Int.reduceAdd, Int.reduceSub, Int.reduceMul, Int.reduceNeg, Int.reduceDiv, Int.reduceMod, Int.reduceTDiv, Int.reduceTMod, Int.reducePow, k1, k2, k3, k4, k5, k6, w1, e1, e2, tk1, tk2, d1, d2, rowG_is, rowG_es, rowG_mr]))))

theorem auditFirst_ans (w : List Wi) (m more : List Mv) (hwl : w.length < 9223372036854775808) (hw : ∀ x ∈ w, okW x) (hm : ∀ x ∈ m, okM x) (hmo : ∀ x ∈ more, okM x) :
    ans Tryd.prog pol 6 [.sl false 3 (w.map encW), .sl false 5 (m.map encM), .sl false 5 (more.map encM)] = some (B true) := by
  cases hn : refF (someF 0 w) [] (logF 0 0 (m.take 100)) with
  | none => exact auditFirst_none w m more hwl hw hm hn
  | some z => exact auditFirst_some (k := z.1) (i := z.2.1) (x := z.2.2) w m more hwl hw hm hmo hn

end Go.Proofs.YthcaepnclhgkmaaDoor
