/- The law AuditSound: a log without a fault. -/
import Derived.Test.YthcaepnclhgkmaaDoorAuV
namespace Go.Proofs.YthcaepnclhgkmaaDoor
open Go Go.Abs
set_option linter.unusedSimpArgs false
set_option linter.unusedVariables false
set_option maxRecDepth 100000
set_option maxHeartbeats 4000000

theorem at_split {L : List Nt} {i : Nat} {x : Nt} (h : L[i]? = some x) : ∃ A B, L = A ++ x :: B ∧ A.length = i := by
  obtain ⟨hi, hx⟩ := List.getElem?_eq_some_iff.mp h
  refine ⟨L.take i, L.drop (i + 1), ?_, by rw [List.length_take]; omega⟩
  rw [← hx, List.getElem_cons_drop, List.take_append_drop]

/-- What a log without a fault tells about the note x at place i. -/
theorem note_facts {w : List Wi} {L : List Nt} {u : Int} (hk : ∀ y ∈ L, y.k = 1 ∨ y.k = 2) (hn : refF (someF 0 w) [] L = none) (hl : lostF (someF 0 w) L u = none) {i : Nat} {x : Nt} (hx : L[i]? = some x) :
    ∃ (r : Ru) (j b a : Nat), x.s = ((j + 1 : Nat) : Int) ∧ j < (someF 0 w).length ∧ (someF 0 w)[j]? = some r ∧ r ∈ someF 0 w ∧
      foldC (fun j y z => Ctl.go (cntF i x j y z)) id 0 L (0, 0) = (b, a) ∧ (x.k = 2 → b = 1 ∧ a = 0) ∧ (x.k = 1 → b = 0) ∧ (x.k = 1 → a = 0 → ¬ x.t + r.mo ≤ u) ∧
      (∀ (j : Nat) (y : Nt), L[j]? = some y → y.s = x.s → y.q = x.q → y.k = x.k → j = i) ∧
      (∀ y ∈ L, y.s = x.s → y.q = x.q → x.k = 2 → y.k = 1 → r.le ≤ x.t - y.t ∧ x.t - y.t ≤ r.mo) := by
  obtain ⟨A, B, rfl, rfl⟩ := at_split hx
  obtain ⟨r, hr⟩ := fk_rule (fk_at hn)
  obtain ⟨j, hs, hj, hg⟩ := someF_rule hr
  have hD : ruleD (someF 0 w) x.s = r := by unfold ruleD; rw [hr]; rfl
  refine ⟨r, j, _, _, hs, hj, hg, List.mem_of_getElem? hg, cnt_all x A B, fun h => cnt_got hk hn h, fun h => cnt_sent hk hn h, fun h1 h2 => ?_, ?_, ?_⟩
  · have := not_lost hk hn h1 hl h2
    rwa [hD] at this
  · intro j y hy h1 h2 h3
    obtain ⟨u1, u2⟩ := uniq hk hn
    rcases Nat.lt_trichotomy j A.length with g | g | g
    · rw [List.getElem?_append_left g] at hy
      have := u1 y (List.mem_of_getElem? hy)
      rw [isN_iff.mpr ⟨h3, h1, h2⟩] at this
      exact (by cases this)
    · exact g
    · rw [List.getElem?_append_right (by omega)] at hy
      obtain ⟨d, hd⟩ : ∃ d, j - A.length = d + 1 := ⟨j - A.length - 1, by omega⟩
      rw [hd, List.getElem?_cons_succ] at hy
      have := u2 y (List.mem_of_getElem? hy)
      rw [isN_iff.mpr ⟨h3, h1, h2⟩] at this
      exact (by cases this)
  · intro y hy h1 h2 h3 h4
    obtain ⟨r', A1, z, A2, hr', rfl, hz, hle, hmo, u1, u2, u3⟩ := got_one hk hn h3
    rw [hr] at hr'
    cases hr'
    have hyn : isN 1 x.s x.q y = true := isN_iff.mpr ⟨h4, h1, h2⟩
    have : y = z := by
      rcases List.mem_append.mp hy with m | m
      · rcases List.mem_append.mp m with m | m
        · rw [u1 y m] at hyn; exact (by cases hyn)
        · rcases List.mem_cons.mp m with m | m
          · exact m
          · rw [u2 y m] at hyn; exact (by cases hyn)
      · rcases List.mem_cons.mp m with m | m
        · subst m; omega
        · rw [u3 y m] at hyn; exact (by cases hyn)
    subst this
    exact ⟨hle, hmo⟩

theorem ruleOf_none : ∀ {l : List Ru} {s : Int}, ruleOf l s = none → ∀ r ∈ l, r.s ≠ s := by
  intro l
  induction l with
  | nil => intro s _ r hr; exact (by cases hr)
  | cons a l ih =>
    intro s h r hr
    rw [ruleOf] at h
    split at h
    · exact (by cases h)
    · rename_i hs
      rcases List.mem_cons.mp hr with rfl | hr
      · exact hs
      · exact ih h r hr

theorem someF_od {w : List Wi} {L : List Nt} (hn : refF (someF 0 w) [] L = none) : ∀ r ∈ someF 0 w, r.od = true → strike (nums 2 r.s L) (nums 1 r.s L) = [] := by
  intro r hr ho
  obtain ⟨j, hj⟩ := List.mem_iff_getElem?.mp hr
  have h2 := someF_get w 0 j hj
  refine strike_ref ?_ ho hn
  cases hc : ruleOf (someF 0 w) r.s with
  | none => exact absurd hc (by
      intro hc
      exact ruleOf_none hc r hr rfl)
  | some q =>
    obtain ⟨i, hs, _, hg⟩ := someF_rule hc
    have : i = j := by rw [h2] at hs; omega
    subst this
    rw [hj] at hg
    exact hg.symm

theorem sound_loop (S : List Ru) (L : List Nt) (hS : S.length < 1000) (hL : L.length < 1000) (u : Int) (hu : -1099511627776 ≤ u ∧ u ≤ 1099511627776)
    (hk : ∀ y ∈ L, y.k = 1 ∨ y.k = 2) (ht : ∀ y ∈ L, 0 ≤ y.t ∧ y.t ≤ 51000) (hmo : ∀ r ∈ S, 0 ≤ r.le ∧ r.le ≤ r.mo ∧ r.mo ≤ 1099511627776)
    (hf : ∀ (i : Nat) (x : Nt), L[i]? = some x → ∃ (r : Ru) (j b a : Nat), x.s = ((j + 1 : Nat) : Int) ∧ j < S.length ∧ S[j]? = some r ∧ r ∈ S ∧
      foldC (fun j y z => Ctl.go (cntF i x j y z)) id 0 L (0, 0) = (b, a) ∧ (x.k = 2 → b = 1 ∧ a = 0) ∧ (x.k = 1 → b = 0) ∧ (x.k = 1 → a = 0 → ¬ x.t + r.mo ≤ u) ∧
      (∀ (j : Nat) (y : Nt), L[j]? = some y → y.s = x.s → y.q = x.q → y.k = x.k → j = i) ∧
      (∀ y ∈ L, y.s = x.s → y.q = x.q → x.k = 2 → y.k = 1 → r.le ≤ x.t - y.t ∧ x.t - y.t ≤ r.mo))
    (e : FEnv) (R : Xit → FEnv → Heap → Prop)
    (he : e 7 = .t (.sl false 4 (S.map encR)) ∧ e 8 = .t (.sl false 4 (L.map encN)) ∧ e 9 = .t (J u) ∧ e 93 = .t (.sl false 4 (L.map encN)) ∧ e 94 = .t (J L.length) ∧ e 95 = .t (J ((0 : Nat) : Int)))
    (hR : ∀ e', (e' 7 = .t (.sl false 4 (S.map encR)) ∧ e' 8 = .t (.sl false 4 (L.map encN))) → R (.exit 0) e' [.row 4 [.t (.agg [J 0, J 0, J 0, J 0])] 1]) :
    wpIter 1 (some [7, 8, 9, 93, 94, 95]) (wc Tryd.prog pol (ans Tryd.prog pol) (inl Tryd.prog pol (ans Tryd.prog pol) 3000 2) 3000 5 il5l1) R 3000 e [.row 4 [.t (.agg [J 0, J 0, J 0, J 0])] 1] := by
  refine loop_range L encN (step := fun i x (z : Unit) => Ctl.go ()) (fin := id)
    (St := fun i z e h => (e 7 = .t (.sl false 4 (S.map encR)) ∧ e 8 = .t (.sl false 4 (L.map encN)) ∧ e 9 = .t (J u) ∧ e 93 = .t (.sl false 4 (L.map encN)) ∧ e 94 = .t (J L.length) ∧ e 95 = .t (J (i : Nat))) ∧ h = [.row 4 [.t (.agg [J 0, J 0, J 0, J 0])] 1])
    (Ex := fun z x e h => (e 7 = .t (.sl false 4 (S.map encR)) ∧ e 8 = .t (.sl false 4 (L.map encN))) ∧ x = .exit 0 ∧ h = [.row 4 [.t (.agg [J 0, J 0, J 0, J 0])] 1]) (s := ()) (by omega) ?_ ?_ (by omega) ?_ ?_
  · intro i x z e h' Y R hm hi hx hget hlt hw ⟨hs, hh⟩ hk2
    obtain ⟨r, j, b, a, q1, q2, q3, q4, q5, q6, q7, q8, q9, q10⟩ := hf i x hx
    have gj : (S.map encR)[j]? = some (encR r) := by rw [List.getElem?_map, q3]; rfl
    have tx := ht x hm
    have tr := hmo r q4
    have d1 : decide (((j + 1 : Nat) : Int) < 1) = false := decide_eq_false (by omega)
    have d2 : decide (((S.length : Nat) : Int) < ((j + 1 : Nat) : Int)) = false := decide_eq_false (by omega)
    have w1 : IntKind.i64.wrap (((j + 1 : Nat) : Int) - 1) = ((j : Nat) : Int) := by rw [wrap_i64 (by omega) (by omega)]; omega
    have eN : encN x = .agg [J x.k, J ((j + 1 : Nat) : Int), J x.q, J x.t] := by unfold encN; rw [q1]
    have eR : encR r = .agg [J r.s, J r.le, J r.mo, B r.od] := rfl
    have w3 : IntKind.i64.wrap (x.t + r.mo) = x.t + r.mo := wrap_i64 (by omega) (by omega)
    simp only [ctlK_go] at hk2
    subst hh
    all_goals (simp only [il5l1_go, il5l1b, go_sem, reduceIte, Nat.reduceEqDiff, Nat.reduceAdd, Int.reduceEq, Nat.reduceLeDiff, Nat.reduceLT, Nat.reduceBEq, Nat.reduceMul, Nat.reduceSub, Int.reduceToNat, Int.reduceLE, Int.reduceLT, Int.reduceAdd, Int.reduceSub, Int.reduceMul, Int.reduceNeg, Int.reduceDiv, Int.reduceMod, Int.reduceTDiv, Int.reduceTMod, Int.reducePow, hs, hget, hi, hlt, hw, encN, encR, tcells_agg, q1, q2, gj, d1, d2, w1] <;> (repeat' ((first | with_reducible refine brG_intro (fun hc => ?_) (fun hc => ?_) | with_reducible refine brC_intro (fun hc => ?_) (fun hc => ?_) | ((with_reducible refine c_opsD ?_); have hc := @List.length_nil Nat) | ((with_reducible refine c_opsT ?_); have hc := @List.length_nil Nat) | ((with_reducible refine and_crit ?_ ?_); rfl; have hc := @List.length_nil Nat) | ((with_reducible refine crit_done ?_); rfl) | ((with_reducible refine mkC_go (fun _ => ?_)); have hc := @List.length_nil Nat) | ((with_reducible refine mkL_go (fun _ => ?_)); have hc := @List.length_nil Nat)) <;> (try simp only [Bool.not_eq_true', Bool.not_eq_false', Bool.not_true, Bool.not_false] at hc) <;> (try simp only [hc, go_sem, reduceIte, Nat.reduceEqDiff, Nat.reduceAdd, Int.reduceEq, Nat.reduceLeDiff, Nat.reduceLT, Nat.reduceBEq, Nat.reduceMul, Nat.reduceSub, Int.reduceToNat, Int.reduceLE, Int.reduceLT, Int.reduceAdd, Int.reduceSub, Int.reduceMul, Int.reduceNeg, Int.reduceDiv, Int.reduceMod, Int.reduceTDiv, Int.reduceTMod, Int.reducePow, hs, hget, hi, hlt, hw, encN, encR, tcells_agg, q1, q2, gj, d1, d2, w1]))))
    all_goals rw [← eN, ← eR]
    all_goals with_reducible refine frame_in S L hL u i x r hi hx hk ht q9 q10 _ _ _ ?_ ?_ ?_ 3 3000 2 _ rfl rfl
    all_goals first | omega | (simp only [go_sem, reduceIte, Nat.reduceEqDiff, Nat.reduceAdd, Int.reduceEq, Nat.reduceLeDiff, Nat.reduceLT, Nat.reduceBEq, Nat.reduceMul, Nat.reduceSub, Int.reduceToNat, Int.reduceLE, Int.reduceLT, Int.reduceAdd, Int.reduceSub, Int.reduceMul, Int.reduceNeg, Int.reduceDiv, Int.reduceMod, Int.reduceTDiv, Int.reduceTMod, Int.reducePow, hs]; done) | skip
    all_goals intro e' b' a' hfe h1
    all_goals (rw [q5] at hfe; cases hfe)
    all_goals rcases hk x hm with b1 | b1
    · have hb := q7 b1
      subst hb
      have c1 : decide ((1 : Int) = 2) = false := by decide
      by_cases ha : a = 0
      · subst ha
        have e1 : decide (x.t + r.mo ≤ u) = false := decide_eq_false (q8 b1 rfl)
        (simp only [il5l1_go, il5l1b, go_sem, reduceIte, Nat.reduceEqDiff, Nat.reduceAdd, Int.reduceEq, Nat.reduceLeDiff, Nat.reduceLT, Nat.reduceBEq, Nat.reduceMul, Nat.reduceSub, Int.reduceToNat, Int.reduceLE, Int.reduceLT, Int.reduceAdd, Int.reduceSub, Int.reduceMul, Int.reduceNeg, Int.reduceDiv, Int.reduceMod, Int.reduceTDiv, Int.reduceTMod, Int.reducePow, h1, hw, encN, encR, tcells_agg, b1, c1, w3, e1] <;> (repeat' ((first | with_reducible refine brG_intro (fun hc => ?_) (fun hc => ?_) | with_reducible refine brC_intro (fun hc => ?_) (fun hc => ?_) | ((with_reducible refine c_opsD ?_); have hc := @List.length_nil Nat) | ((with_reducible refine c_opsT ?_); have hc := @List.length_nil Nat) | ((with_reducible refine and_crit ?_ ?_); rfl; have hc := @List.length_nil Nat) | ((with_reducible refine crit_done ?_); rfl) | ((with_reducible refine mkC_go (fun _ => ?_)); have hc := @List.length_nil Nat) | ((with_reducible refine mkL_go (fun _ => ?_)); have hc := @List.length_nil Nat)) <;> (try simp only [Bool.not_eq_true', Bool.not_eq_false', Bool.not_true, Bool.not_false] at hc) <;> (try simp only [hc, go_sem, reduceIte, Nat.reduceEqDiff, Nat.reduceAdd, Int.reduceEq, Nat.reduceLeDiff, Nat.reduceLT, Nat.reduceBEq, Nat.reduceMul, Nat.reduceSub, Int.reduceToNat, Int.reduceLE, Int.reduceLT, Int.reduceAdd, Int.reduceSub, Int.reduceMul, Int.reduceNeg, Int.reduceDiv, Int.reduceMod, Int.reduceTDiv, Int.reduceTMod, Int.reducePow, h1, hw, encN, encR, tcells_agg, b1, c1, w3, e1]))))
        all_goals (refine hk2 _ _ ⟨?_, ?_⟩ <;> simp only [go_sem, reduceIte, Nat.reduceEqDiff, Nat.reduceAdd, Int.reduceEq, Nat.reduceLeDiff, Nat.reduceLT, Nat.reduceBEq, Nat.reduceMul, Nat.reduceSub, Int.reduceToNat, Int.reduceLE, Int.reduceLT, Int.reduceAdd, Int.reduceSub, Int.reduceMul, Int.reduceNeg, Int.reduceDiv, Int.reduceMod, Int.reduceTDiv, Int.reduceTMod, Int.reducePow, h1, hw])
      · have e1 : decide (((a : Nat) : Int) = 0) = false := decide_eq_false (by omega)
        (simp only [il5l1_go, il5l1b, go_sem, reduceIte, Nat.reduceEqDiff, Nat.reduceAdd, Int.reduceEq, Nat.reduceLeDiff, Nat.reduceLT, Nat.reduceBEq, Nat.reduceMul, Nat.reduceSub, Int.reduceToNat, Int.reduceLE, Int.reduceLT, Int.reduceAdd, Int.reduceSub, Int.reduceMul, Int.reduceNeg, Int.reduceDiv, Int.reduceMod, Int.reduceTDiv, Int.reduceTMod, Int.reducePow, h1, hw, encN, encR, tcells_agg, b1, c1, w3, e1] <;> (repeat' ((first | with_reducible refine brG_intro (fun hc => ?_) (fun hc => ?_) | with_reducible refine brC_intro (fun hc => ?_) (fun hc => ?_) | ((with_reducible refine c_opsD ?_); have hc := @List.length_nil Nat) | ((with_reducible refine c_opsT ?_); have hc := @List.length_nil Nat) | ((with_reducible refine and_crit ?_ ?_); rfl; have hc := @List.length_nil Nat) | ((with_reducible refine crit_done ?_); rfl) | ((with_reducible refine mkC_go (fun _ => ?_)); have hc := @List.length_nil Nat) | ((with_reducible refine mkL_go (fun _ => ?_)); have hc := @List.length_nil Nat)) <;> (try simp only [Bool.not_eq_true', Bool.not_eq_false', Bool.not_true, Bool.not_false] at hc) <;> (try simp only [hc, go_sem, reduceIte, Nat.reduceEqDiff, Nat.reduceAdd, Int.reduceEq, Nat.reduceLeDiff, Nat.reduceLT, Nat.reduceBEq, Nat.reduceMul, Nat.reduceSub, Int.reduceToNat, Int.reduceLE, Int.reduceLT, Int.reduceAdd, Int.reduceSub, Int.reduceMul, Int.reduceNeg, Int.reduceDiv, Int.reduceMod, Int.reduceTDiv, Int.reduceTMod, Int.reducePow, h1, hw, encN, encR, tcells_agg, b1, c1, w3, e1]))))
        all_goals (refine hk2 _ _ ⟨?_, ?_⟩ <;> simp only [go_sem, reduceIte, Nat.reduceEqDiff, Nat.reduceAdd, Int.reduceEq, Nat.reduceLeDiff, Nat.reduceLT, Nat.reduceBEq, Nat.reduceMul, Nat.reduceSub, Int.reduceToNat, Int.reduceLE, Int.reduceLT, Int.reduceAdd, Int.reduceSub, Int.reduceMul, Int.reduceNeg, Int.reduceDiv, Int.reduceMod, Int.reduceTDiv, Int.reduceTMod, Int.reducePow, h1, hw])
    · obtain ⟨hb, ha⟩ := q6 b1
      subst hb ha
      (simp only [il5l1_go, il5l1b, go_sem, reduceIte, Nat.reduceEqDiff, Nat.reduceAdd, Int.reduceEq, Nat.reduceLeDiff, Nat.reduceLT, Nat.reduceBEq, Nat.reduceMul, Nat.reduceSub, Int.reduceToNat, Int.reduceLE, Int.reduceLT, Int.reduceAdd, Int.reduceSub, Int.reduceMul, Int.reduceNeg, Int.reduceDiv, Int.reduceMod, Int.reduceTDiv, Int.reduceTMod, Int.reducePow, h1, hw, encN, encR, tcells_agg, b1, w3] <;> (repeat' ((first | with_reducible refine brG_intro (fun hc => ?_) (fun hc => ?_) | with_reducible refine brC_intro (fun hc => ?_) (fun hc => ?_) | ((with_reducible refine c_opsD ?_); have hc := @List.length_nil Nat) | ((with_reducible refine c_opsT ?_); have hc := @List.length_nil Nat) | ((with_reducible refine and_crit ?_ ?_); rfl; have hc := @List.length_nil Nat) | ((with_reducible refine crit_done ?_); rfl) | ((with_reducible refine mkC_go (fun _ => ?_)); have hc := @List.length_nil Nat) | ((with_reducible refine mkL_go (fun _ => ?_)); have hc := @List.length_nil Nat)) <;> (try simp only [Bool.not_eq_true', Bool.not_eq_false', Bool.not_true, Bool.not_false] at hc) <;> (try simp only [hc, go_sem, reduceIte, Nat.reduceEqDiff, Nat.reduceAdd, Int.reduceEq, Nat.reduceLeDiff, Nat.reduceLT, Nat.reduceBEq, Nat.reduceMul, Nat.reduceSub, Int.reduceToNat, Int.reduceLE, Int.reduceLT, Int.reduceAdd, Int.reduceSub, Int.reduceMul, Int.reduceNeg, Int.reduceDiv, Int.reduceMod, Int.reduceTDiv, Int.reduceTMod, Int.reducePow, h1, hw, encN, encR, tcells_agg, b1, w3]))))
      all_goals (refine hk2 _ _ ⟨?_, ?_⟩ <;> simp only [go_sem, reduceIte, Nat.reduceEqDiff, Nat.reduceAdd, Int.reduceEq, Nat.reduceLeDiff, Nat.reduceLT, Nat.reduceBEq, Nat.reduceMul, Nat.reduceSub, Int.reduceToNat, Int.reduceLE, Int.reduceLT, Int.reduceAdd, Int.reduceSub, Int.reduceMul, Int.reduceNeg, Int.reduceDiv, Int.reduceMod, Int.reduceTDiv, Int.reduceTMod, Int.reducePow, h1, hw])
  · intro z e h' Y R hlt ⟨hs, hh⟩ hk
    subst hh
    all_goals (simp only [il5l1_go, il5l1b, go_sem, reduceIte, Nat.reduceEqDiff, Nat.reduceAdd, Int.reduceEq, Nat.reduceLeDiff, Nat.reduceLT, Nat.reduceBEq, Nat.reduceMul, Nat.reduceSub, Int.reduceToNat, Int.reduceLE, Int.reduceLT, Int.reduceAdd, Int.reduceSub, Int.reduceMul, Int.reduceNeg, Int.reduceDiv, Int.reduceMod, Int.reduceTDiv, Int.reduceTMod, Int.reducePow, hs, hlt] <;> (repeat' ((first | with_reducible refine brG_intro (fun hc => ?_) (fun hc => ?_) | with_reducible refine brC_intro (fun hc => ?_) (fun hc => ?_) | ((with_reducible refine c_opsD ?_); have hc := @List.length_nil Nat) | ((with_reducible refine c_opsT ?_); have hc := @List.length_nil Nat) | ((with_reducible refine and_crit ?_ ?_); rfl; have hc := @List.length_nil Nat) | ((with_reducible refine crit_done ?_); rfl) | ((with_reducible refine mkC_go (fun _ => ?_)); have hc := @List.length_nil Nat) | ((with_reducible refine mkL_go (fun _ => ?_)); have hc := @List.length_nil Nat)) <;> (try simp only [Bool.not_eq_true', Bool.not_eq_false', Bool.not_true, Bool.not_false] at hc) <;> (try simp only [hc, go_sem, reduceIte, Nat.reduceEqDiff, Nat.reduceAdd, Int.reduceEq, Nat.reduceLeDiff, Nat.reduceLT, Nat.reduceBEq, Nat.reduceMul, Nat.reduceSub, Int.reduceToNat, Int.reduceLE, Int.reduceLT, Int.reduceAdd, Int.reduceSub, Int.reduceMul, Int.reduceNeg, Int.reduceDiv, Int.reduceMod, Int.reduceTDiv, Int.reduceTMod, Int.reducePow, hs, hlt]))))
    all_goals (refine hk _ _ _ ⟨?_, rfl, rfl⟩ <;> simp only [go_sem, reduceIte, Nat.reduceEqDiff, Nat.reduceAdd, Int.reduceEq, Nat.reduceLeDiff, Nat.reduceLT, Nat.reduceBEq, Nat.reduceMul, Nat.reduceSub, Int.reduceToNat, Int.reduceLE, Int.reduceLT, Int.reduceAdd, Int.reduceSub, Int.reduceMul, Int.reduceNeg, Int.reduceDiv, Int.reduceMod, Int.reduceTDiv, Int.reduceTMod, Int.reducePow, hs, id])
  · refine ⟨?_, rfl⟩
    simp only [go_sem, reduceIte, Nat.reduceEqDiff, Nat.reduceAdd, Int.reduceEq, Nat.reduceLeDiff, Nat.reduceLT, Nat.reduceBEq, Nat.reduceMul, Nat.reduceSub, Int.reduceToNat, Int.reduceLE, Int.reduceLT, Int.reduceAdd, Int.reduceSub, Int.reduceMul, Int.reduceNeg, Int.reduceDiv, Int.reduceMod, Int.reduceTDiv, Int.reduceTMod, Int.reducePow, he]
  · intro x e h' ⟨h1, h2, h3⟩
    subst h2 h3
    exact hR e h1

theorem auditSound_none (w : List Wi) (m : List Mv) (v : Nat) (hv : v < 65536) (hwl : w.length < 9223372036854775808) (hw : ∀ x ∈ w, okW x) (hml : m.length < 9223372036854775808) (hm : ∀ x ∈ m, okM x)
    (hn : refF (someF 0 w) [] (logF 0 0 m) = none) (hl : lostF (someF 0 w) (logF 0 0 m) (v + lastT (logF 0 0 m)) = none) :
    ans Tryd.prog pol 5 [.sl false 3 (w.map encW), .sl false 5 (m.map encM), .sc (.int .u16 v)] = some (B true) := by
  have c1 := some_ans w hwl hw
  have hS := some_ok w 0 hw (by omega)
  have c2 := log_ans m hml hm
  obtain ⟨hLc, hLn, hLt⟩ := log_ok m 0 0 hm (by omega) (by omega) (by omega)
  have hok := chkN_ok (by omega) hLc
  have hk : ∀ y ∈ logF 0 0 m, y.k = 1 ∨ y.k = 2 := fun y hy => (hok y hy).1
  have hS' : (someF 0 w).length ≤ 12 ∧ chkR 0 (someF 0 w) = true := ⟨by omega, hS.1⟩
  have hLt' : ∀ x ∈ logF 0 0 m, x.t ≤ 51000 ∧ 0 ≤ x.t := fun x hx => ⟨(hLt x hx).1, (hLt x hx).2.1⟩
  have hr := lastT_rng hLt'
  have k1 := aud_part hS' hLc (by omega) hLt' false false (v + lastT (logF 0 0 m)) (by omega)
  have hz : refT (someF 0 w) (logF 0 0 m) (v + lastT (logF 0 0 m)) = z4 := by unfold refT; rw [hn]; show lostT (lostF _ _ _) = _; rw [hl]; rfl
  rw [hz] at k1
  have k2 := inOrder_ans (someF 0 w) (logF 0 0 m) (by omega) (by omega) (someF_od hn)
  have hfacts := fun i x hx => note_facts (i := i) (x := x) hk hn hl hx
  have hu := until_eq (logF 0 0 m) v
  have hmo := chkR_mem hS.1
  have hLt2 : ∀ y ∈ logF 0 0 m, 0 ≤ y.t ∧ y.t ≤ 51000 := fun x hx => ⟨(hLt x hx).2.1, (hLt x hx).1⟩
  generalize hSe : someF 0 w = S at *
  generalize hLe : logF 0 0 m = L at *
  generalize (v : Int) + lastT L = u at *
  have w2 : IntKind.i64.wrap (v : Int) = (v : Int) := wrap_i64 (by omega) (by omega)
  refine ans_go 3000 2 il5_eq (Nat.le_of_ble_eq_true rfl) ?_
  by_cases h0 : 0 < L.length
  · obtain ⟨y, hy⟩ : ∃ y, L[L.length - 1]? = some y := ⟨_, List.getElem?_eq_getElem (by omega)⟩
    have hyt := hLt' y (List.mem_of_getElem? hy)
    have g1 : (L.map encN)[L.length - 1]? = some (encN y) := by rw [List.getElem?_map, hy]; rfl
    have ht : tAt L (L.length - 1) = y.t := by unfold tAt; rw [hy]; rfl
    rw [if_pos h0, ht] at hu
    have d0 : decide ((0 : Int) < ((L.length : Nat) : Int)) = true := decide_eq_true (by omega)
    have w0 : IntKind.i64.wrap (((L.length : Nat) : Int) - 1) = ((L.length - 1 : Nat) : Int) := by rw [wrap_i64 (by omega) (by omega)]; omega
    have w1 : IntKind.i64.wrap ((v : Int) + y.t) = u := by rw [wrap_i64 (by omega) (by omega)]; exact hu.symm
    (simp only [il5c, go_sem, reduceIte, Nat.reduceEqDiff, Nat.reduceAdd, Int.reduceEq, Nat.reduceLeDiff, Nat.reduceLT, Nat.reduceBEq, Nat.reduceMul, Nat.reduceSub, Int.reduceToNat, Int.reduceLE, Int.reduceLT, Int.reduceAdd, Int.reduceSub, Int.reduceMul, Int.reduceNeg, Int.reduceDiv, Int.reduceMod, Int.reduceTDiv, Int.reduceTMod, Int.reducePow, works44_ans, c1, c2, k1, g1, d0, w0, w1, w2, encN, tcells_agg, z4] <;> (repeat' ((first | with_reducible refine brG_intro (fun hc => ?_) (fun hc => ?_) | with_reducible refine brC_intro (fun hc => ?_) (fun hc => ?_) | ((with_reducible refine c_opsD ?_); have hc := @List.length_nil Nat) | ((with_reducible refine c_opsT ?_); have hc := @List.length_nil Nat) | ((with_reducible refine and_crit ?_ ?_); rfl; have hc := @List.length_nil Nat) | ((with_reducible refine crit_done ?_); rfl) | ((with_reducible refine mkC_go (fun _ => ?_)); have hc := @List.length_nil Nat) | ((with_reducible refine mkL_go (fun _ => ?_)); have hc := @List.length_nil Nat)) <;> (try simp only [Bool.not_eq_true', Bool.not_eq_false', Bool.not_true, Bool.not_false] at hc) <;> (try simp only [hc, go_sem, reduceIte, Nat.reduceEqDiff, Nat.reduceAdd, Int.reduceEq, Nat.reduceLeDiff, Nat.reduceLT, Nat.reduceBEq, Nat.reduceMul, Nat.reduceSub, Int.reduceToNat, Int.reduceLE, Int.reduceLT, Int.reduceAdd, Int.reduceSub, Int.reduceMul, Int.reduceNeg, Int.reduceDiv, Int.reduceMod, Int.reduceTDiv, Int.reduceTMod, Int.reducePow, works44_ans, c1, c2, k1, g1, d0, w0, w1, w2, encN, tcells_agg, z4]))))
    refine sound_loop S L (by omega) (by omega) u (by omega) hk hLt2 hmo hfacts _ _ ?_ ?_
    · simp only [go_sem, reduceIte, Nat.reduceEqDiff, Nat.reduceAdd, Int.reduceEq, Nat.reduceLeDiff, Nat.reduceLT, Nat.reduceBEq, Nat.reduceMul, Nat.reduceSub, Int.reduceToNat, Int.reduceLE, Int.reduceLT, Int.reduceAdd, Int.reduceSub, Int.reduceMul, Int.reduceNeg, Int.reduceDiv, Int.reduceMod, Int.reduceTDiv, Int.reduceTMod, Int.reducePow]
    · intro e' he
      (simp only [il5c, go_sem, reduceIte, Nat.reduceEqDiff, Nat.reduceAdd, Int.reduceEq, Nat.reduceLeDiff, Nat.reduceLT, Nat.reduceBEq, Nat.reduceMul, Nat.reduceSub, Int.reduceToNat, Int.reduceLE, Int.reduceLT, Int.reduceAdd, Int.reduceSub, Int.reduceMul, Int.reduceNeg, Int.reduceDiv, Int.reduceMod, Int.reduceTDiv, Int.reduceTMod, Int.reducePow, he, k2] <;> (repeat' ((first | with_reducible refine brG_intro (fun hc => ?_) (fun hc => ?_) | with_reducible refine brC_intro (fun hc => ?_) (fun hc => ?_) | ((with_reducible refine c_opsD ?_); have hc := @List.length_nil Nat) | ((with_reducible refine c_opsT ?_); have hc := @List.length_nil Nat) | ((with_reducible refine and_crit ?_ ?_); rfl; have hc := @List.length_nil Nat) | ((with_reducible refine crit_done ?_); rfl) | ((with_reducible refine mkC_go (fun _ => ?_)); have hc := @List.length_nil Nat) | ((with_reducible refine mkL_go (fun _ => ?_)); have hc := @List.length_nil Nat)) <;> (try simp only [Bool.not_eq_true', Bool.not_eq_false', Bool.not_true, Bool.not_false] at hc) <;> (try simp only [hc, go_sem, reduceIte, Nat.reduceEqDiff, Nat.reduceAdd, Int.reduceEq, Nat.reduceLeDiff, Nat.reduceLT, Nat.reduceBEq, Nat.reduceMul, Nat.reduceSub, Int.reduceToNat, Int.reduceLE, Int.reduceLT, Int.reduceAdd, Int.reduceSub, Int.reduceMul, Int.reduceNeg, Int.reduceDiv, Int.reduceMod, Int.reduceTDiv, Int.reduceTMod, Int.reducePow, he, k2]))))
  · have d0 : decide ((0 : Int) < ((L.length : Nat) : Int)) = false := decide_eq_false (by omega)
    rw [if_neg h0] at hu
    subst hu
    (simp only [il5c, go_sem, reduceIte, Nat.reduceEqDiff, Nat.reduceAdd, Int.reduceEq, Nat.reduceLeDiff, Nat.reduceLT, Nat.reduceBEq, Nat.reduceMul, Nat.reduceSub, Int.reduceToNat, Int.reduceLE, Int.reduceLT, Int.reduceAdd, Int.reduceSub, Int.reduceMul, Int.reduceNeg, Int.reduceDiv, Int.reduceMod, Int.reduceTDiv, Int.reduceTMod, Int.reducePow, works44_ans, c1, c2, k1, d0, w2, encN, tcells_agg, z4] <;> (repeat' ((first | with_reducible refine brG_intro (fun hc => ?_) (fun hc => ?_) | with_reducible refine brC_intro (fun hc => ?_) (fun hc => ?_) | ((with_reducible refine c_opsD ?_); have hc := @List.length_nil Nat) | ((with_reducible refine c_opsT ?_); have hc := @List.length_nil Nat) | ((with_reducible refine and_crit ?_ ?_); rfl; have hc := @List.length_nil Nat) | ((with_reducible refine crit_done ?_); rfl) | ((with_reducible refine mkC_go (fun _ => ?_)); have hc := @List.length_nil Nat) | ((with_reducible refine mkL_go (fun _ => ?_)); have hc := @List.length_nil Nat)) <;> (try simp only [Bool.not_eq_true', Bool.not_eq_false', Bool.not_true, Bool.not_false] at hc) <;> (try simp only [hc, go_sem, reduceIte, Nat.reduceEqDiff, Nat.reduceAdd, Int.reduceEq, Nat.reduceLeDiff, Nat.reduceLT, Nat.reduceBEq, Nat.reduceMul, Nat.reduceSub, Int.reduceToNat, Int.reduceLE, Int.reduceLT, Int.reduceAdd, Int.reduceSub, Int.reduceMul, Int.reduceNeg, Int.reduceDiv, Int.reduceMod, Int.reduceTDiv, Int.reduceTMod, Int.reducePow, works44_ans, c1, c2, k1, d0, w2, encN, tcells_agg, z4]))))
    refine sound_loop S L (by omega) (by omega) v (by omega) hk hLt2 hmo hfacts _ _ ?_ ?_
    · simp only [go_sem, reduceIte, Nat.reduceEqDiff, Nat.reduceAdd, Int.reduceEq, Nat.reduceLeDiff, Nat.reduceLT, Nat.reduceBEq, Nat.reduceMul, Nat.reduceSub, Int.reduceToNat, Int.reduceLE, Int.reduceLT, Int.reduceAdd, Int.reduceSub, Int.reduceMul, Int.reduceNeg, Int.reduceDiv, Int.reduceMod, Int.reduceTDiv, Int.reduceTMod, Int.reducePow]
    · intro e' he
      (simp only [il5c, go_sem, reduceIte, Nat.reduceEqDiff, Nat.reduceAdd, Int.reduceEq, Nat.reduceLeDiff, Nat.reduceLT, Nat.reduceBEq, Nat.reduceMul, Nat.reduceSub, Int.reduceToNat, Int.reduceLE, Int.reduceLT, Int.reduceAdd, Int.reduceSub, Int.reduceMul, Int.reduceNeg, Int.reduceDiv, Int.reduceMod, Int.reduceTDiv, Int.reduceTMod, Int.reducePow, he, k2] <;> (repeat' ((first | with_reducible refine brG_intro (fun hc => ?_) (fun hc => ?_) | with_reducible refine brC_intro (fun hc => ?_) (fun hc => ?_) | ((with_reducible refine c_opsD ?_); have hc := @List.length_nil Nat) | ((with_reducible refine c_opsT ?_); have hc := @List.length_nil Nat) | ((with_reducible refine and_crit ?_ ?_); rfl; have hc := @List.length_nil Nat) | ((with_reducible refine crit_done ?_); rfl) | ((with_reducible refine mkC_go (fun _ => ?_)); have hc := @List.length_nil Nat) | ((with_reducible refine mkL_go (fun _ => ?_)); have hc := @List.length_nil Nat)) <;> (try simp only [Bool.not_eq_true', Bool.not_eq_false', Bool.not_true, Bool.not_false] at hc) <;> (try simp only [hc, go_sem, reduceIte, Nat.reduceEqDiff, Nat.reduceAdd, Int.reduceEq, Nat.reduceLeDiff, Nat.reduceLT, Nat.reduceBEq, Nat.reduceMul, Nat.reduceSub, Int.reduceToNat, Int.reduceLE, Int.reduceLT, Int.reduceAdd, Int.reduceSub, Int.reduceMul, Int.reduceNeg, Int.reduceDiv, Int.reduceMod, Int.reduceTDiv, Int.reduceTMod, Int.reducePow, he, k2]))))

theorem auditSound_ans (w : List Wi) (m : List Mv) (v : Nat) (hv : v < 65536) (hwl : w.length < 9223372036854775808) (hw : ∀ x ∈ w, okW x) (hml : m.length < 9223372036854775808) (hm : ∀ x ∈ m, okM x) :
    ans Tryd.prog pol 5 [.sl false 3 (w.map encW), .sl false 5 (m.map encM), .sc (.int .u16 v)] = some (B true) := by
  cases hn : refF (someF 0 w) [] (logF 0 0 m) with
  | some z =>
    obtain ⟨k, i, x⟩ := z
    obtain ⟨h1, h2, h3, h4⟩ := refF_range _ _ hn
    exact auditSound_fault w m v hv hwl hw hml hm ⟨h1.1, by omega⟩ ⟨by simpa using h3, by simpa using h4⟩ (refT_some hn)
  | none =>
    cases hl : lostF (someF 0 w) (logF 0 0 m) (v + lastT (logF 0 0 m)) with
    | none => exact auditSound_none w m v hv hwl hw hml hm hn hl
    | some z =>
      obtain ⟨i, x⟩ := z
      obtain ⟨h1, h2⟩ := lostF_get (logF 0 0 m) [] (i := i) (x := x) hl
      refine auditSound_fault w m v hv hwl hw hml hm (k := 8) ⟨by decide, by decide⟩ ⟨h1, h2⟩ ?_
      unfold refT
      rw [hn]
      show lostT (lostF _ _ _) = _
      rw [hl]
      rfl
end Go.Proofs.YthcaepnclhgkmaaDoor
