/- The law AuditDelays: the walk. -/
import Derived.Test.YthcaepnclhgkmaaDoorAuX
import Derived.Test.YthcaepnclhgkmaaDoorDeB
import Derived.Test.YthcaepnclhgkmaaDoorWorks44
namespace Go.Proofs.YthcaepnclhgkmaaDoor
open Go Go.Abs
set_option linter.unusedSimpArgs false
set_option linter.unusedVariables false
set_option maxRecDepth 100000
set_option maxHeartbeats 4000000

theorem eq_nil : ans Tryd.prog pol 18 [.sc (.slice none 0 0), .sc (.slice none 0 0)] = some (B true) := ans_of_run (n := 10) 5 (by kernel_rfl)

theorem del_in (cl : Bool) (L : List Nt) (hL : L.length ≤ 200) (x0 : Int) (a7 a32 a33 : AV) (e : FEnv) (R : Xit → FEnv → Heap → Prop)
    (he : e 2 = .t (J x0) ∧ e 7 = a7 ∧ e 10 = .t (.sl cl 4 (L.map encN)) ∧ e 32 = a32 ∧ e 33 = a33 ∧ e 37 = .t (.agg [J x0, J 1, J 0]) ∧ e 38 = .t (J 0))
    (hR : ∀ e', (e' 2 = .t (J x0) ∧ e' 7 = a7 ∧ e' 32 = a32 ∧ e' 33 = a33) → R (.exit 2) e' []) :
    wpIter 0 (some [2, 7, 10, 32, 33, 37, 38]) (wc Tryd.prog pol (ans Tryd.prog pol) (inl Tryd.prog pol (ans Tryd.prog pol) 100 1) 100 4 il4l0) R 100 e [] := by
  have k14 := notes_ans cl L (by omega)
  by_cases hv : L.length ≤ 4096 ∧ chkN 0 L = true
  · have hok := chkN_lim (by omega) hv.2
    have ht : tOk L := fun x hx => (hok x hx).2
    rw [hv.2, decide_eq_true hv.1, Bool.and_true] at k14
    have d16 := fun x h => delays_ans cl L x hv h
    have d17 := fun x => refDelays_ans cl L x (by omega) ht
    have hlen : ∀ x, (dlF x L).length ≤ 1000000 := by
      intro x
      have key : ∀ (l : List Nt) (i : Nat) (z : List Int), (foldC (fun i y (z : List Int) => Ctl.go (z ++ dl1 x (L.take i) y)) id i l z).length ≤ z.length + l.length := by
        intro l
        induction l with
        | nil => intro i z; exact Nat.le_refl _
        | cons y l ih =>
          intro i z
          rw [foldC_go (s' := z ++ dl1 x (L.take i) y) rfl]
          have h1 := ih (i + 1) (z ++ dl1 x (L.take i) y)
          have h2 := dl1_len x (L.take i) y
          rw [List.length_append] at h1
          simp only [List.length_cons]
          omega
      have := key L 0 []
      unfold dlF
      simp only [List.length_nil] at this
      omega
    have d18 := fun x => (eq18_ans false false (dlF x L) (dlF x L) (hlen x)).trans (by rw [decide_eq_true rfl])
    have b1 := d16 1 ⟨by decide, by decide⟩
    have b0 := d16 0 ⟨by decide, by decide⟩
    have c1 := d17 1
    have c0 := d17 0
    have e1 := d18 1
    have e0 := d18 0
    by_cases h0 : x0 < 0
    · have bx := delays_arg cl L x0 hv (.inl h0)
      have g1 : decide (x0 < 0) = true := decide_eq_true h0
      clear d16 d17 d18 hlen hok ht
      generalize (dlF 1 L).map J = D1 at *
      generalize (dlF 0 L).map J = D0 at *
      with_reducible refine iter_unroll (body := wc _ _ _ _ _ _ il4l0) (by decide) ?_
      (simp only [il4l0_go, il4l0b, go_sem, reduceIte, Nat.reduceEqDiff, Nat.reduceAdd, Int.reduceEq, Nat.reduceLeDiff, Nat.reduceLT, Nat.reduceBEq, Nat.reduceMul, Nat.reduceSub, Int.reduceToNat, Int.reduceLE, Int.reduceLT, Int.reduceAdd, Int.reduceSub, Int.reduceMul, Int.reduceNeg, Int.reduceDiv, Int.reduceMod, Int.reduceTDiv, Int.reduceTMod, Int.reducePow, he, k14, b1, b0, bx, c1, c0, e1, e0, eq_nil, g1] <;> (repeat' ((first | with_reducible refine brG_intro (fun hc => ?_) (fun hc => ?_) | with_reducible refine brC_intro (fun hc => ?_) (fun hc => ?_) | ((with_reducible refine c_opsD ?_); have hc := @List.length_nil Nat) | ((with_reducible refine c_opsT ?_); have hc := @List.length_nil Nat) | ((with_reducible refine and_crit ?_ ?_); rfl; have hc := @List.length_nil Nat) | ((with_reducible refine crit_done ?_); rfl) | ((with_reducible refine mkC_go (fun _ => ?_)); have hc := @List.length_nil Nat) | ((with_reducible refine mkL_go (fun _ => ?_)); have hc := @List.length_nil Nat) | ((with_reducible refine iter_unroll (body := wc _ _ _ _ _ _ il4l0) ?_ ?_); exact Nat.le_of_ble_eq_true rfl; simp only [il4l0_go, il4l0b]; have hc := @List.length_nil Nat)) <;> (try simp only [Bool.not_eq_true', Bool.not_eq_false', Bool.not_true, Bool.not_false] at hc) <;> (try simp only [hc, go_sem, reduceIte, Nat.reduceEqDiff, Nat.reduceAdd, Int.reduceEq, Nat.reduceLeDiff, Nat.reduceLT, Nat.reduceBEq, Nat.reduceMul, Nat.reduceSub, Int.reduceToNat, Int.reduceLE, Int.reduceLT, Int.reduceAdd, Int.reduceSub, Int.reduceMul, Int.reduceNeg, Int.reduceDiv, Int.reduceMod, Int.reduceTDiv, Int.reduceTMod, Int.reducePow, he, k14, b1, b0, bx, c1, c0, e1, e0, eq_nil, g1]))))
      all_goals (refine hR _ ?_ <;> simp only [go_sem, reduceIte, Nat.reduceEqDiff, Nat.reduceAdd, Int.reduceEq, Nat.reduceLeDiff, Nat.reduceLT, Nat.reduceBEq, Nat.reduceMul, Nat.reduceSub, Int.reduceToNat, Int.reduceLE, Int.reduceLT, Int.reduceAdd, Int.reduceSub, Int.reduceMul, Int.reduceNeg, Int.reduceDiv, Int.reduceMod, Int.reduceTDiv, Int.reduceTMod, Int.reducePow, he])
    · have g1 : decide (x0 < 0) = false := decide_eq_false h0
      by_cases h9 : 4095 < x0
      · have bx := delays_arg cl L x0 hv (.inr h9)
        have g2 : decide (4095 < x0) = true := decide_eq_true h9
        clear d16 d17 d18 hlen hok ht
        generalize (dlF 1 L).map J = D1 at *
        generalize (dlF 0 L).map J = D0 at *
        with_reducible refine iter_unroll (body := wc _ _ _ _ _ _ il4l0) (by decide) ?_
        (simp only [il4l0_go, il4l0b, go_sem, reduceIte, Nat.reduceEqDiff, Nat.reduceAdd, Int.reduceEq, Nat.reduceLeDiff, Nat.reduceLT, Nat.reduceBEq, Nat.reduceMul, Nat.reduceSub, Int.reduceToNat, Int.reduceLE, Int.reduceLT, Int.reduceAdd, Int.reduceSub, Int.reduceMul, Int.reduceNeg, Int.reduceDiv, Int.reduceMod, Int.reduceTDiv, Int.reduceTMod, Int.reducePow, he, k14, b1, b0, bx, c1, c0, e1, e0, eq_nil, g1, g2] <;> (repeat' ((first | with_reducible refine brG_intro (fun hc => ?_) (fun hc => ?_) | with_reducible refine brC_intro (fun hc => ?_) (fun hc => ?_) | ((with_reducible refine c_opsD ?_); have hc := @List.length_nil Nat) | ((with_reducible refine c_opsT ?_); have hc := @List.length_nil Nat) | ((with_reducible refine and_crit ?_ ?_); rfl; have hc := @List.length_nil Nat) | ((with_reducible refine crit_done ?_); rfl) | ((with_reducible refine mkC_go (fun _ => ?_)); have hc := @List.length_nil Nat) | ((with_reducible refine mkL_go (fun _ => ?_)); have hc := @List.length_nil Nat) | ((with_reducible refine iter_unroll (body := wc _ _ _ _ _ _ il4l0) ?_ ?_); exact Nat.le_of_ble_eq_true rfl; simp only [il4l0_go, il4l0b]; have hc := @List.length_nil Nat)) <;> (try simp only [Bool.not_eq_true', Bool.not_eq_false', Bool.not_true, Bool.not_false] at hc) <;> (try simp only [hc, go_sem, reduceIte, Nat.reduceEqDiff, Nat.reduceAdd, Int.reduceEq, Nat.reduceLeDiff, Nat.reduceLT, Nat.reduceBEq, Nat.reduceMul, Nat.reduceSub, Int.reduceToNat, Int.reduceLE, Int.reduceLT, Int.reduceAdd, Int.reduceSub, Int.reduceMul, Int.reduceNeg, Int.reduceDiv, Int.reduceMod, Int.reduceTDiv, Int.reduceTMod, Int.reducePow, he, k14, b1, b0, bx, c1, c0, e1, e0, eq_nil, g1, g2]))))
        all_goals (refine hR _ ?_ <;> simp only [go_sem, reduceIte, Nat.reduceEqDiff, Nat.reduceAdd, Int.reduceEq, Nat.reduceLeDiff, Nat.reduceLT, Nat.reduceBEq, Nat.reduceMul, Nat.reduceSub, Int.reduceToNat, Int.reduceLE, Int.reduceLT, Int.reduceAdd, Int.reduceSub, Int.reduceMul, Int.reduceNeg, Int.reduceDiv, Int.reduceMod, Int.reduceTDiv, Int.reduceTMod, Int.reducePow, he])
      · have bx := d16 x0 ⟨by omega, by omega⟩
        have cx := d17 x0
        have ex := d18 x0
        have g2 : decide (4095 < x0) = false := decide_eq_false h9
        clear d16 d17 d18 hlen hok ht
        generalize (dlF x0 L).map J = DX at *
        generalize (dlF 1 L).map J = D1 at *
        generalize (dlF 0 L).map J = D0 at *
        with_reducible refine iter_unroll (body := wc _ _ _ _ _ _ il4l0) (by decide) ?_
        (simp only [il4l0_go, il4l0b, go_sem, reduceIte, Nat.reduceEqDiff, Nat.reduceAdd, Int.reduceEq, Nat.reduceLeDiff, Nat.reduceLT, Nat.reduceBEq, Nat.reduceMul, Nat.reduceSub, Int.reduceToNat, Int.reduceLE, Int.reduceLT, Int.reduceAdd, Int.reduceSub, Int.reduceMul, Int.reduceNeg, Int.reduceDiv, Int.reduceMod, Int.reduceTDiv, Int.reduceTMod, Int.reducePow, he, k14, b1, b0, bx, c1, c0, cx, e1, e0, ex, eq_nil, g1, g2] <;> (repeat' ((first | with_reducible refine brG_intro (fun hc => ?_) (fun hc => ?_) | with_reducible refine brC_intro (fun hc => ?_) (fun hc => ?_) | ((with_reducible refine c_opsD ?_); have hc := @List.length_nil Nat) | ((with_reducible refine c_opsT ?_); have hc := @List.length_nil Nat) | ((with_reducible refine and_crit ?_ ?_); rfl; have hc := @List.length_nil Nat) | ((with_reducible refine crit_done ?_); rfl) | ((with_reducible refine mkC_go (fun _ => ?_)); have hc := @List.length_nil Nat) | ((with_reducible refine mkL_go (fun _ => ?_)); have hc := @List.length_nil Nat) | ((with_reducible refine iter_unroll (body := wc _ _ _ _ _ _ il4l0) ?_ ?_); exact Nat.le_of_ble_eq_true rfl; simp only [il4l0_go, il4l0b]; have hc := @List.length_nil Nat)) <;> (try simp only [Bool.not_eq_true', Bool.not_eq_false', Bool.not_true, Bool.not_false] at hc) <;> (try simp only [hc, go_sem, reduceIte, Nat.reduceEqDiff, Nat.reduceAdd, Int.reduceEq, Nat.reduceLeDiff, Nat.reduceLT, Nat.reduceBEq, Nat.reduceMul, Nat.reduceSub, Int.reduceToNat, Int.reduceLE, Int.reduceLT, Int.reduceAdd, Int.reduceSub, Int.reduceMul, Int.reduceNeg, Int.reduceDiv, Int.reduceMod, Int.reduceTDiv, Int.reduceTMod, Int.reducePow, he, k14, b1, b0, bx, c1, c0, cx, e1, e0, ex, eq_nil, g1, g2]))))
        all_goals (refine hR _ ?_ <;> simp only [go_sem, reduceIte, Nat.reduceEqDiff, Nat.reduceAdd, Int.reduceEq, Nat.reduceLeDiff, Nat.reduceLT, Nat.reduceBEq, Nat.reduceMul, Nat.reduceSub, Int.reduceToNat, Int.reduceLE, Int.reduceLT, Int.reduceAdd, Int.reduceSub, Int.reduceMul, Int.reduceNeg, Int.reduceDiv, Int.reduceMod, Int.reduceTDiv, Int.reduceTMod, Int.reducePow, he])
  · have d16 := fun x => delays_bad cl L x hv
    have hb : (chkN 0 L && decide (L.length ≤ 4096)) = false := by
      cases hc : (chkN 0 L && decide (L.length ≤ 4096)) with
      | false => rfl
      | true => exact absurd (by simpa [and_comm] using hc) hv
    rw [hb] at k14
    have b1 := d16 1
    have b0 := d16 0
    have bx := d16 x0
    clear d16
    with_reducible refine iter_unroll (body := wc _ _ _ _ _ _ il4l0) (by decide) ?_
    (simp only [il4l0_go, il4l0b, go_sem, reduceIte, Nat.reduceEqDiff, Nat.reduceAdd, Int.reduceEq, Nat.reduceLeDiff, Nat.reduceLT, Nat.reduceBEq, Nat.reduceMul, Nat.reduceSub, Int.reduceToNat, Int.reduceLE, Int.reduceLT, Int.reduceAdd, Int.reduceSub, Int.reduceMul, Int.reduceNeg, Int.reduceDiv, Int.reduceMod, Int.reduceTDiv, Int.reduceTMod, Int.reducePow, he, k14, b1, b0, bx, eq_nil] <;> (repeat' ((first | with_reducible refine brG_intro (fun hc => ?_) (fun hc => ?_) | with_reducible refine brC_intro (fun hc => ?_) (fun hc => ?_) | ((with_reducible refine c_opsD ?_); have hc := @List.length_nil Nat) | ((with_reducible refine c_opsT ?_); have hc := @List.length_nil Nat) | ((with_reducible refine and_crit ?_ ?_); rfl; have hc := @List.length_nil Nat) | ((with_reducible refine crit_done ?_); rfl) | ((with_reducible refine mkC_go (fun _ => ?_)); have hc := @List.length_nil Nat) | ((with_reducible refine mkL_go (fun _ => ?_)); have hc := @List.length_nil Nat) | ((with_reducible refine iter_unroll (body := wc _ _ _ _ _ _ il4l0) ?_ ?_); exact Nat.le_of_ble_eq_true rfl; simp only [il4l0_go, il4l0b]; have hc := @List.length_nil Nat)) <;> (try simp only [Bool.not_eq_true', Bool.not_eq_false', Bool.not_true, Bool.not_false] at hc) <;> (try simp only [hc, go_sem, reduceIte, Nat.reduceEqDiff, Nat.reduceAdd, Int.reduceEq, Nat.reduceLeDiff, Nat.reduceLT, Nat.reduceBEq, Nat.reduceMul, Nat.reduceSub, Int.reduceToNat, Int.reduceLE, Int.reduceLT, Int.reduceAdd, Int.reduceSub, Int.reduceMul, Int.reduceNeg, Int.reduceDiv, Int.reduceMod, Int.reduceTDiv, Int.reduceTMod, Int.reducePow, he, k14, b1, b0, bx, eq_nil]))))
    all_goals (refine hR _ ?_ <;> simp only [go_sem, reduceIte, Nat.reduceEqDiff, Nat.reduceAdd, Int.reduceEq, Nat.reduceLeDiff, Nat.reduceLT, Nat.reduceBEq, Nat.reduceMul, Nat.reduceSub, Int.reduceToNat, Int.reduceLE, Int.reduceLT, Int.reduceAdd, Int.reduceSub, Int.reduceMul, Int.reduceNeg, Int.reduceDiv, Int.reduceMod, Int.reduceTDiv, Int.reduceTMod, Int.reducePow, he])
end Go.Proofs.YthcaepnclhgkmaaDoor
