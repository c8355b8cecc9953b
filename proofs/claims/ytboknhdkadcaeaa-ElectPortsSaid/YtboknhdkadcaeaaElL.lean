/- Drafts are valid networks; the law ElectSettles. -/
import Derived.Test.YtboknhdkadcaeaaElK
import Derived.Test.YtboknhdkadcaeaaWorks11
namespace Go.Proofs.Ytboknhdkadcaeaa
open Go Go.Abs
set_option linter.unusedSimpArgs false
set_option linter.unusedVariables false
set_option maxRecDepth 100000
set_option maxHeartbeats 4000000

theorem foldC_mk {α : Type} {p : Nat → α → Bool} : ∀ {l : List α} {i : Nat}, (∀ k x, l[k]? = some x → p (i + k) x = true) → foldC (fun i x (_ : Unit) => if p i x then Ctl.go () else Ctl.out false) (fun _ => true) i l () = true := by
  intro l
  induction l with
  | nil => intro i _; rfl
  | cons y l ih =>
    intro i h
    have h0 := h 0 y rfl
    rw [foldC_go (s' := ()) (by simp at h0; simp [h0])]
    exact ih (fun k x hk => by have := h (k + 1) x (by simpa using hk); rw [← this]; congr 1; omega)

theorem dM_id (rev : Bool) (rk : List Int) (i : Nat) : (dM rev rk i).id = if rev then 100 - (i : Int) else (i : Int) + 1 := by
  unfold dM; cases rk[i]? <;> rfl
theorem dM_ok {rev : Bool} {rk : List Int} (hrk : ∀ x ∈ rk, 0 ≤ x ∧ x < 256) {i : Nat} (hi : i < 12) : okM (dM rev rk i) := by
  unfold dM
  cases h : rk[i]? with
  | none => cases rev <;> simp only [okM] <;> simp <;> omega
  | some r =>
    have := hrk r (List.mem_of_getElem? h)
    cases rev <;> simp only [okM] <;> simp <;> omega
theorem dLs_spec (n : Nat) (hn : 0 < n) (ls : List (Int × Int)) : (dLs n ls).length ≤ 24 ∧ ∀ l ∈ dLs n ls, goodL n l = true := by
  have key : ∀ (r : List (Int × Int)) (i : Nat) (o : List (Int × Int)), (o.length ≤ 24 ∧ ∀ l ∈ o, goodL n l = true) →
      (foldC (fun _ x o => if o.length < 24 then Ctl.go (if x.1 % (n : Int) = x.2 % (n : Int) then o else o ++ [(x.1 % (n : Int), x.2 % (n : Int))]) else Ctl.out o) id i r o).length ≤ 24 ∧
      ∀ l ∈ foldC (fun _ x o => if o.length < 24 then Ctl.go (if x.1 % (n : Int) = x.2 % (n : Int) then o else o ++ [(x.1 % (n : Int), x.2 % (n : Int))]) else Ctl.out o) id i r o, goodL n l = true := by
    intro r
    induction r with
    | nil => intro i o h; exact h
    | cons x r ih =>
      intro i o h
      by_cases h24 : o.length < 24
      · rw [foldC_go (by rw [if_pos h24])]
        refine ih _ _ ?_
        by_cases q : x.1 % (n : Int) = x.2 % (n : Int)
        · rw [if_pos q]; exact h
        · rw [if_neg q]
          refine ⟨by simp; omega, fun l hl => ?_⟩
          rw [List.mem_append] at hl
          rcases hl with hl | hl
          · exact h.2 l hl
          · simp only [List.mem_singleton] at hl
            subst hl
            have := Int.emod_nonneg x.1 (show (n : Int) ≠ 0 by omega)
            have := Int.emod_nonneg x.2 (show (n : Int) ≠ 0 by omega)
            have := Int.emod_lt_of_pos x.1 (show 0 < (n : Int) by omega)
            have := Int.emod_lt_of_pos x.2 (show 0 < (n : Int) by omega)
            exact decide_eq_true ⟨⟨by assumption, by assumption⟩, ⟨by assumption, by assumption⟩, q⟩
      · rw [foldC_out (by rw [if_neg h24])]; exact h
  exact key ls 0 [] ⟨by simp, fun l h => by simp at h⟩
theorem draft_ok {nd : Int} {rk : List Int} {ls : List (Int × Int)} {rev : Bool} (hnd : 0 ≤ nd) (hrk : ∀ x ∈ rk, 0 ≤ x ∧ x < 256) : okS (dMs rev rk (1 + nd % 12).toNat) (dLs (1 + nd % 12) ls) = true := by
  obtain ⟨n, hn⟩ := Int.eq_ofNat_of_zero_le (show 0 ≤ 1 + nd % 12 by omega)
  rw [hn, Int.toNat_natCast]
  have hb : 1 ≤ n ∧ n ≤ 12 := by omega
  have hl : (dMs rev rk n).length = n := by simp [dMs]
  obtain ⟨l1, l2⟩ := dLs_spec n (by omega) ls
  rw [okS, hl, decide_eq_true ⟨hb.1, hb.2, l1⟩, Bool.true_and, Bool.and_eq_true, List.all_eq_true]
  refine ⟨?_, l2⟩
  refine foldC_mk ?_
  intro k m hk
  simp only [dMs, List.getElem?_map] at hk
  have hkn : k < n := by
    apply Decidable.byContradiction
    intro h
    rw [List.getElem?_eq_none (by simp; omega)] at hk
    simp at hk
  rw [List.getElem?_range hkn] at hk
  simp only [Option.map_some, Option.some.injEq] at hk
  subst hk
  rw [Nat.zero_add, goodM, Bool.and_eq_true]
  refine ⟨decide_eq_true (dM_ok hrk (by omega)), ?_⟩
  rw [fresh, List.all_eq_true]
  intro p hp
  obtain ⟨j, hj⟩ := List.mem_iff_getElem?.1 hp
  have hjk : j < k := by
    have := (List.getElem?_eq_some_iff.1 hj).1
    simp at this; omega
  rw [List.getElem?_take_of_lt hjk] at hj
  simp only [dMs, List.getElem?_map] at hj
  rw [List.getElem?_range (by omega)] at hj
  simp only [Option.map_some, Option.some.injEq] at hj
  subst hj
  rw [dM_id, dM_id]
  cases rev <;> simp <;> omega

theorem electSettles_ans (nd : Int) (rk : List Int) (ls : List (Int × Int)) (rev : Bool) (hnd : 0 ≤ nd ∧ nd < 256) (hrk : ∀ x ∈ rk, 0 ≤ x ∧ x < 256) (hls : ∀ x ∈ ls, (0 ≤ x.1 ∧ x.1 < 256) ∧ 0 ≤ x.2 ∧ x.2 < 256) (hlr : rk.length < 9223372036854775808) (hll : ls.length < 9223372036854775808)
    (l : List Wd) (hl : ∀ w ∈ l, okW w) (hwl : l.length < 9223372036854775808) (more : Int) (hmo : 0 ≤ more ∧ more < 256) :
    ans Try.prog pol 5 [.agg [U8 nd, .sl false 1 (rk.map U8), .sl false 2 (ls.map encU), B rev], .sl false 5 (l.map encW), U8 more] = some (B true) := by
  have c1 := spread_ans nd rk ls rev hnd hrk hls hlr hll
  have hok := draft_ok (ls := ls) (rev := rev) hnd.1 hrk
  generalize dMs rev rk (1 + nd % 12).toNat = ms at c1 hok
  generalize dLs (1 + nd % 12) ls = lk at c1 hok
  obtain ⟨hl1, hl2⟩ := okS_len hok
  have hn := net_of hok
  have c2 := Elect_ok ms lk hok
  have c3 := some_ans ms lk l hl1.2 hl hwl
  have hW := wildL_ok (n := ms.length) hl
  generalize wildL ms.length l = W at c3 hW
  obtain ⟨hWl, hWs⟩ := okVs_st hW
  have hWst : ∀ i, i < ms.length → 0 ≤ (vAt W i).st := fun i hi => (hWs _ (vAt_in (by omega))).2.1.1
  have t1 : more.tmod 3 = more % 3 := Int.tmod_eq_emod_of_nonneg hmo.1
  have v1 : IntKind.u8.wrap (more % 3) = more % 3 := by rw [wrap_u8]; omega
  have v2 : IntKind.i64.wrap (more % 3) = more % 3 := wrap_i64 (by omega) (by omega)
  obtain ⟨q, hq⟩ := Int.eq_ofNat_of_zero_le (show 0 ≤ more % 3 by omega)
  have hq3 : q < 3 := by omega
  rw [hq] at t1 v1 v2
  have v3 : IntKind.i64.wrap (24 + (q : Int)) = ((24 + q : Nat) : Int) := by rw [wrap_i64 (by omega) (by omega)]; omega
  -- valid vectors stay valid
  have hrd : ∀ t, okVs ms.length (roundsL ms lk t W) = true := by
    intro t
    induction t with
    | zero => exact hW
    | succ t ih =>
      obtain ⟨g1, g2⟩ := okVs_st ih
      rw [roundsL, okVs, roundL_len, decide_eq_true rfl, Bool.true_and, List.all_eq_true]
      intro w hw
      obtain ⟨i, hi, rfl⟩ := vAt_mem hw
      rw [roundL_len] at hi
      rw [roundL_at hi]
      refine decide_eq_true ?_
      have hms : ∀ i, i < ms.length → okM (msAt ms i) := by
        intro i hi
        obtain ⟨x, hx⟩ : ∃ x, ms[i]? = some x := ⟨ms[i], by simp⟩
        have h2 := hok
        rw [okS, Bool.and_eq_true, Bool.and_eq_true] at h2
        have hg := foldC_pos h2.2.1 i x hx
        rw [Nat.zero_add, goodM, Bool.and_eq_true] at hg
        simp only [msAt, hx, Option.getD_some]
        exact of_decide_eq_true hg.1
      obtain ⟨h1, _, _⟩ := bestAt_spec hn g1 i
      rcases h1 with h1 | ⟨k, j, ha, hj, h1⟩
      · rw [h1]
        refine ⟨hms i hi, ?_⟩
        simp only [ownV]; omega
      · obtain ⟨a1, a2, a3⟩ := adj_of hn ha
        have := g2 _ (vAt_in (i := j) (by omega))
        have hk : k < lk.length := by
          rcases ha with ha | ha <;> exact (List.getElem?_eq_some_iff.1 ha).1
        rw [h1]
        simp only [okV] at this ⊢
        refine ⟨this.1, ?_⟩
        omega
  have e0 : roundsL ms lk (24 + q) W = roundsL ms lk 12 (ownL ms) := settles hn hWl hWst (by omega)
  refine ans_go 100 1 il5_eq (Nat.le_of_ble_eq_true rfl) ?_
  (simp only [il5c, go_sem, reduceIte, Nat.reduceEqDiff, Nat.reduceAdd, Int.reduceEq, Nat.reduceLeDiff, Nat.reduceLT, Nat.reduceBEq, Nat.reduceMul, Nat.reduceSub, Int.reduceToNat, Int.reduceLE, Int.reduceLT, Int.reduceAdd, Int.reduceSub, Int.reduceMul, Int.reduceNeg, Int.reduceDiv, Int.reduceMod, Int.reduceTDiv, Int.reduceTMod, Int.reducePow, works_ans, c1, c2, c3, t1, v1, v2, v3] <;> (repeat' ((first | with_reducible refine brG_intro (fun hc => ?_) (fun hc => ?_) | with_reducible refine brC_intro (fun hc => ?_) (fun hc => ?_) | ((with_reducible refine c_opsD ?_); have hc := @List.length_nil Nat) | ((with_reducible refine c_opsT ?_); have hc := @List.length_nil Nat) | ((with_reducible refine and_crit ?_ ?_); rfl; have hc := @List.length_nil Nat) | ((with_reducible refine crit_done ?_); rfl) | ((with_reducible refine mkC_go (fun _ => ?_)); have hc := @List.length_nil Nat) | ((with_reducible refine mkL_go (fun _ => ?_)); have hc := @List.length_nil Nat)) <;> (try simp only [Bool.not_eq_true', Bool.not_eq_false', Bool.not_true, Bool.not_false] at hc) <;> (try simp only [hc, go_sem, reduceIte, Nat.reduceEqDiff, Nat.reduceAdd, Int.reduceEq, Nat.reduceLeDiff, Nat.reduceLT, Nat.reduceBEq, Nat.reduceMul, Nat.reduceSub, Int.reduceToNat, Int.reduceLE, Int.reduceLT, Int.reduceAdd, Int.reduceSub, Int.reduceMul, Int.reduceNeg, Int.reduceDiv, Int.reduceMod, Int.reduceTDiv, Int.reduceTMod, Int.reducePow, works_ans, c1, c2, c3, t1, v1, v2, v3]))))
  refine loop_upto (24 + q) (step := fun i (_ : Unit) => Ctl.go ()) (fin := id)
    (St := fun i _ e h => (e 7 = .ref 0 1 0 0 ∧ e 8 = .t (.sl true 9 ((roundsL ms lk 12 (ownL ms)).map encV)) ∧ e 10 = .t (.sl (decide (i ≠ 0)) 9 ((roundsL ms lk i W).map encV)) ∧ e 28 = .t (I ((24 + q : Nat) : Int)) ∧ e 29 = .t (I (i : Nat))) ∧ h = [.row 2 [.t (.agg [.sl false 6 (ms.map encMs), .sl false 2 (lk.map encLk)])] 1])
    (Ex := fun _ x e h => (e 8 = .t (.sl true 9 ((roundsL ms lk 12 (ownL ms)).map encV)) ∧ e 10 = .t (.sl true 9 ((roundsL ms lk (24 + q) W).map encV))) ∧ x = .exit 0) (s := ()) (by omega) ?_ ?_ (by omega) ?_ ?_
  · intro i _ e h Y R hi hlt hw ⟨hs, hh⟩ hk
    subst hh
    simp only [ctlK_go] at hk
    have k1 := Round_ok (decide (i ≠ 0)) ms lk (roundsL ms lk i W) hok (hrd i)
    have e1 : roundL ms lk (roundsL ms lk i W) = roundsL ms lk (i + 1) W := rfl
    rw [e1] at k1
    have d1 : decide (i + 1 ≠ 0) = true := decide_eq_true (by omega)
    rw [d1] at hk
    generalize roundsL ms lk (i + 1) W = V at *
    (simp only [il5l0_go, il5l0b, go_sem, reduceIte, Nat.reduceEqDiff, Nat.reduceAdd, Int.reduceEq, Nat.reduceLeDiff, Nat.reduceLT, Nat.reduceBEq, Nat.reduceMul, Nat.reduceSub, Int.reduceToNat, Int.reduceLE, Int.reduceLT, Int.reduceAdd, Int.reduceSub, Int.reduceMul, Int.reduceNeg, Int.reduceDiv, Int.reduceMod, Int.reduceTDiv, Int.reduceTMod, Int.reducePow, hs, hlt, hw, k1] <;> (repeat' ((first | with_reducible refine brG_intro (fun hc => ?_) (fun hc => ?_) | with_reducible refine brC_intro (fun hc => ?_) (fun hc => ?_) | ((with_reducible refine c_opsD ?_); have hc := @List.length_nil Nat) | ((with_reducible refine c_opsT ?_); have hc := @List.length_nil Nat) | ((with_reducible refine and_crit ?_ ?_); rfl; have hc := @List.length_nil Nat) | ((with_reducible refine crit_done ?_); rfl) | ((with_reducible refine mkC_go (fun _ => ?_)); have hc := @List.length_nil Nat) | ((with_reducible refine mkL_go (fun _ => ?_)); have hc := @List.length_nil Nat)) <;> (try simp only [Bool.not_eq_true', Bool.not_eq_false', Bool.not_true, Bool.not_false] at hc) <;> (try simp only [hc, go_sem, reduceIte, Nat.reduceEqDiff, Nat.reduceAdd, Int.reduceEq, Nat.reduceLeDiff, Nat.reduceLT, Nat.reduceBEq, Nat.reduceMul, Nat.reduceSub, Int.reduceToNat, Int.reduceLE, Int.reduceLT, Int.reduceAdd, Int.reduceSub, Int.reduceMul, Int.reduceNeg, Int.reduceDiv, Int.reduceMod, Int.reduceTDiv, Int.reduceTMod, Int.reducePow, hs, hlt, hw, k1]))))
    all_goals (refine hk _ _ ⟨?_, rfl⟩; simp only [go_sem, reduceIte, Nat.reduceEqDiff, Nat.reduceAdd, Int.reduceEq, Nat.reduceLeDiff, Nat.reduceLT, Nat.reduceBEq, Nat.reduceMul, Nat.reduceSub, Int.reduceToNat, Int.reduceLE, Int.reduceLT, Int.reduceAdd, Int.reduceSub, Int.reduceMul, Int.reduceNeg, Int.reduceDiv, Int.reduceMod, Int.reduceTDiv, Int.reduceTMod, Int.reducePow, hs, hw])
  · intro _ e h Y R hlt ⟨hs, hh⟩ hk
    subst hh
    have d1 : decide (24 + q ≠ 0) = true := decide_eq_true (by omega)
    rw [d1] at hs
    (simp only [il5l0_go, il5l0b, go_sem, reduceIte, Nat.reduceEqDiff, Nat.reduceAdd, Int.reduceEq, Nat.reduceLeDiff, Nat.reduceLT, Nat.reduceBEq, Nat.reduceMul, Nat.reduceSub, Int.reduceToNat, Int.reduceLE, Int.reduceLT, Int.reduceAdd, Int.reduceSub, Int.reduceMul, Int.reduceNeg, Int.reduceDiv, Int.reduceMod, Int.reduceTDiv, Int.reduceTMod, Int.reducePow, hs, hlt] <;> (repeat' ((first | with_reducible refine brG_intro (fun hc => ?_) (fun hc => ?_) | with_reducible refine brC_intro (fun hc => ?_) (fun hc => ?_) | ((with_reducible refine c_opsD ?_); have hc := @List.length_nil Nat) | ((with_reducible refine c_opsT ?_); have hc := @List.length_nil Nat) | ((with_reducible refine and_crit ?_ ?_); rfl; have hc := @List.length_nil Nat) | ((with_reducible refine crit_done ?_); rfl) | ((with_reducible refine mkC_go (fun _ => ?_)); have hc := @List.length_nil Nat) | ((with_reducible refine mkL_go (fun _ => ?_)); have hc := @List.length_nil Nat)) <;> (try simp only [Bool.not_eq_true', Bool.not_eq_false', Bool.not_true, Bool.not_false] at hc) <;> (try simp only [hc, go_sem, reduceIte, Nat.reduceEqDiff, Nat.reduceAdd, Int.reduceEq, Nat.reduceLeDiff, Nat.reduceLT, Nat.reduceBEq, Nat.reduceMul, Nat.reduceSub, Int.reduceToNat, Int.reduceLE, Int.reduceLT, Int.reduceAdd, Int.reduceSub, Int.reduceMul, Int.reduceNeg, Int.reduceDiv, Int.reduceMod, Int.reduceTDiv, Int.reduceTMod, Int.reducePow, hs, hlt]))))
    all_goals (refine hk _ _ _ ⟨?_, rfl⟩; simp only [go_sem, reduceIte, Nat.reduceEqDiff, Nat.reduceAdd, Int.reduceEq, Nat.reduceLeDiff, Nat.reduceLT, Nat.reduceBEq, Nat.reduceMul, Nat.reduceSub, Int.reduceToNat, Int.reduceLE, Int.reduceLT, Int.reduceAdd, Int.reduceSub, Int.reduceMul, Int.reduceNeg, Int.reduceDiv, Int.reduceMod, Int.reduceTDiv, Int.reduceTMod, Int.reducePow, hs])
  · refine ⟨?_, rfl⟩
    simp only [go_sem, reduceIte, Nat.reduceEqDiff, Nat.reduceAdd, Int.reduceEq, Nat.reduceLeDiff, Nat.reduceLT, Nat.reduceBEq, Nat.reduceMul, Nat.reduceSub, Int.reduceToNat, Int.reduceLE, Int.reduceLT, Int.reduceAdd, Int.reduceSub, Int.reduceMul, Int.reduceNeg, Int.reduceDiv, Int.reduceMod, Int.reduceTDiv, Int.reduceTMod, Int.reducePow, roundsL]
    simp
  · intro x e h ⟨h1, h2⟩
    subst h2
    rw [e0] at h1
    have k1 := same_ans true true (roundsL ms lk 12 (ownL ms)) (roundsL ms lk 12 (ownL ms)) (by rw [rounds_len (by simp [ownL])]; omega)
    rw [decide_eq_true rfl] at k1
    (simp only [il5c, go_sem, reduceIte, Nat.reduceEqDiff, Nat.reduceAdd, Int.reduceEq, Nat.reduceLeDiff, Nat.reduceLT, Nat.reduceBEq, Nat.reduceMul, Nat.reduceSub, Int.reduceToNat, Int.reduceLE, Int.reduceLT, Int.reduceAdd, Int.reduceSub, Int.reduceMul, Int.reduceNeg, Int.reduceDiv, Int.reduceMod, Int.reduceTDiv, Int.reduceTMod, Int.reducePow, h1, k1] <;> (repeat' ((first | with_reducible refine brG_intro (fun hc => ?_) (fun hc => ?_) | with_reducible refine brC_intro (fun hc => ?_) (fun hc => ?_) | ((with_reducible refine c_opsD ?_); have hc := @List.length_nil Nat) | ((with_reducible refine c_opsT ?_); have hc := @List.length_nil Nat) | ((with_reducible refine and_crit ?_ ?_); rfl; have hc := @List.length_nil Nat) | ((with_reducible refine crit_done ?_); rfl) | ((with_reducible refine mkC_go (fun _ => ?_)); have hc := @List.length_nil Nat) | ((with_reducible refine mkL_go (fun _ => ?_)); have hc := @List.length_nil Nat)) <;> (try simp only [Bool.not_eq_true', Bool.not_eq_false', Bool.not_true, Bool.not_false] at hc) <;> (try simp only [hc, go_sem, reduceIte, Nat.reduceEqDiff, Nat.reduceAdd, Int.reduceEq, Nat.reduceLeDiff, Nat.reduceLT, Nat.reduceBEq, Nat.reduceMul, Nat.reduceSub, Int.reduceToNat, Int.reduceLE, Int.reduceLT, Int.reduceAdd, Int.reduceSub, Int.reduceMul, Int.reduceNeg, Int.reduceDiv, Int.reduceMod, Int.reduceTDiv, Int.reduceTMod, Int.reducePow, h1, k1]))))

end Go.Proofs.Ytboknhdkadcaeaa
