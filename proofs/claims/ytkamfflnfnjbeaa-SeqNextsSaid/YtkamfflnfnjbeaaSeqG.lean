/- Drafts of lists of counters. -/
import Derived.Test.YtkamfflnfnjbeaaSeqP
import Derived.Test.YtkamfflnfnjbeaaAbsMore
namespace Go.Proofs.Ytkamfflnfnjbeaa
open Go Go.Abs
set_option linter.unusedSimpArgs false
set_option linter.unusedVariables false
set_option maxRecDepth 100000
set_option maxHeartbeats 4000000

abbrev U16 (n : Int) : T := .sc (.int .u16 n)
def encD (c : Cnt) : T := .agg [U16 c.1, U16 c.2]
theorem encD_cells (c : Cnt) : (encD c).cells = [U16 c.1, U16 c.2] := rfl

/-- The list that a draft stands for: state (list, before). -/
def dstp (z : List Cnt × Int) (c : Cnt) : List Cnt × Int := (z.1 ++ [(z.2 + 1 + c.1 % 300, c.2)], z.2 + 1 + c.1 % 300)

def lstD (l : List Cnt) : List Cnt := ((l.take 12).foldl dstp ([], 0)).1

theorem foldC_cut : ∀ (l : List Cnt) (i : Nat) (z : List Cnt × Int), foldC (fun i c z => if i < 12 then Ctl.go (dstp z c) else Ctl.out z) id i l z = (l.take (12 - i)).foldl dstp z := by
  intro l
  induction l with
  | nil => intro i z; simp [foldC]
  | cons c l ih =>
    intro i z
    by_cases h : i < 12
    · rw [foldC_go (s' := dstp z c) (by simp [h]), ih]
      have : 12 - i = (12 - (i + 1)) + 1 := by omega
      rw [this, List.take_succ_cons, List.foldl_cons]
    · rw [foldC_out (r := z) (by simp [h])]
      have : 12 - i = 0 := by omega
      rw [this]; simp

theorem lst_chk : ∀ (l : List Cnt) (o : List Cnt) (b : Int) (k : Int), (∀ c ∈ l, (0 ≤ c.1 ∧ c.1 < 65536) ∧ 0 ≤ c.2 ∧ c.2 < 65536) → 0 ≤ b → b + 300 * l.length ≤ 4095 →
    ∃ m, (l.foldl dstp (o, b)).1 = o ++ m ∧ m.length = l.length ∧ chk b m = true := by
  intro l
  induction l with
  | nil => intro o b k _ _ _; exact ⟨[], by simp, rfl, rfl⟩
  | cons c l ih =>
    intro o b k h hb hk
    have hc := h c (by simp)
    simp only [List.length_cons] at hk
    obtain ⟨m, h1, h2, h3⟩ := ih (o ++ [(b + 1 + c.1 % 300, c.2)]) (b + 1 + c.1 % 300) k (fun x hx => h x (by simp [hx])) (by omega) (by omega)
    refine ⟨(b + 1 + c.1 % 300, c.2) :: m, ?_, ?_, ?_⟩
    · rw [List.foldl_cons]; show (l.foldl dstp (o ++ [(b + 1 + c.1 % 300, c.2)], b + 1 + c.1 % 300)).1 = _
      rw [h1]; simp
    · simp [h2]
    · simp only [chk, okB, Bool.and_eq_true, decide_eq_true_eq, Bool.not_eq_true', decide_eq_false_iff_not]
      refine ⟨⟨by omega, by omega, by omega⟩, h3⟩

theorem lstD_ok (l : List Cnt) (h : ∀ c ∈ l, (0 ≤ c.1 ∧ c.1 < 65536) ∧ 0 ≤ c.2 ∧ c.2 < 65536) : chk 0 (lstD l) = true ∧ (lstD l).length ≤ 12 := by
  obtain ⟨m, h1, h2, h3⟩ := lst_chk (l.take 12) [] 0 0 (fun c hc => h c (List.mem_of_mem_take hc)) (by omega) (by simp; omega)
  rw [lstD, h1]
  simp only [List.nil_append]
  refine ⟨h3, ?_⟩
  rw [h2]; simp; omega

theorem list_ans (l : List Cnt) (hl : l.length < 9223372036854775808) (h : ∀ c ∈ l, (0 ≤ c.1 ∧ c.1 < 65536) ∧ 0 ≤ c.2 ∧ c.2 < 65536) :
    ans Try.prog pol 23 [.sl false 2 (l.map encD)] = some (.sl false 2 ((lstD l).map encC)) := by
  refine ans_go (l.length + 1) 1 il23_eq (Nat.le_of_ble_eq_true rfl) ?_
  (simp only [il23c, go_sem, reduceIte, Nat.reduceEqDiff, Nat.reduceAdd, Int.reduceEq, Nat.reduceLeDiff, Nat.reduceLT, Nat.reduceBEq, Nat.reduceMul, Nat.reduceSub, Int.reduceToNat, Int.reduceLE, Int.reduceLT, Int.reduceAdd, Int.reduceSub, Int.reduceMul, Int.reduceNeg, Int.reduceDiv, Int.reduceMod, Int.reduceTDiv, Int.reduceTMod, Int.reducePow] <;> (repeat' ((first | with_reducible refine brG_intro (fun hc => ?_) (fun hc => ?_) | with_reducible refine brC_intro (fun hc => ?_) (fun hc => ?_) | ((with_reducible refine c_opsD ?_); have hc := @List.length_nil Nat) | ((with_reducible refine c_opsT ?_); have hc := @List.length_nil Nat) | ((with_reducible refine and_crit ?_ ?_); rfl; have hc := @List.length_nil Nat) | ((with_reducible refine crit_done ?_); rfl) | ((with_reducible refine mkC_go (fun _ => ?_)); have hc := @List.length_nil Nat) | ((with_reducible refine mkL_go (fun _ => ?_)); have hc := @List.length_nil Nat)) <;> (try simp only [Bool.not_eq_true', Bool.not_eq_false', Bool.not_true, Bool.not_false] at hc) <;> (try simp only [hc, go_sem, reduceIte, Nat.reduceEqDiff, Nat.reduceAdd, Int.reduceEq, Nat.reduceLeDiff, Nat.reduceLT, Nat.reduceBEq, Nat.reduceMul, Nat.reduceSub, Int.reduceToNat, Int.reduceLE, Int.reduceLT, Int.reduceAdd, Int.reduceSub, Int.reduceMul, Int.reduceNeg, Int.reduceDiv, Int.reduceMod, Int.reduceTDiv, Int.reduceTMod, Int.reducePow]))))
  refine loop_range l encD (step := fun i c z => if i < 12 then Ctl.go (dstp z c) else Ctl.out z) (fin := id)
    (St := fun i z e h => (e 0 = .t (.sl false 2 (l.map encD)) ∧ e 3 = .ms 0 z.1.length 0 z.1.length 2 false ∧ e 4 = .t (.sc (.int .i64 z.2)) ∧ e 5 = .t (.sc (.int .i64 (i : Nat)))) ∧ h = [rowG 2 encC z.1] ∧ (i ≤ 12 ∧ z.1.length ≤ 12 ∧ z.1.length ≤ i ∧ 0 ≤ z.2 ∧ z.2 ≤ 300 * (i : Int)))
    (Ex := fun z x e h => (e 3 = .ms 0 z.1.length 0 z.1.length 2 false) ∧ x = .exit 0 ∧ h = [rowG 2 encC z.1]) (s := ([], 0)) (by omega) ?_ ?_ (by omega) ?_ ?_
  · intro i c z e h' Y R hm hi hx hget hlt hw ⟨hs, hh, hz⟩ hk
    subst hh
    by_cases h12 : i < 12
    · have d1 : decide ((i : Int) < 12) = true := decide_eq_true (by omega)
      have hc := h c hm
      have w1 : IntKind.i64.wrap (z.2 + 1) = z.2 + 1 := wrap_i64 (by omega) (by omega)
      have w2 : c.1.tmod 300 = c.1 % 300 := Int.tmod_eq_emod_of_nonneg hc.1.1
      have w3 : IntKind.i64.wrap (c.1 % 300) = c.1 % 300 := wrap_i64 (by omega) (by omega)
      have w4 : IntKind.i64.wrap (z.2 + 1 + c.1 % 300) = z.2 + 1 + c.1 % 300 := wrap_i64 (by omega) (by omega)
      have w5 : IntKind.i64.wrap c.2 = c.2 := wrap_i64 (by omega) (by omega)
      have hroom : (z.1.length + 1) * 16 ≤ roomB := ap_room (by omega) (by omega)
      simp only [if_pos h12, ctlK_go] at hk
      have hb : i + 1 ≤ 12 ∧ (dstp z c).1.length ≤ 12 ∧ (dstp z c).1.length ≤ i + 1 ∧ 0 ≤ (dstp z c).2 ∧ (dstp z c).2 ≤ 300 * ((i + 1 : Nat) : Int) := by
        simp only [dstp, List.length_append, List.length_cons, List.length_nil]
        refine ⟨by omega, by omega, by omega, by omega, ?_⟩
        push_cast
        omega
      have hl2 : i < l.length := hi
      (simp only [il23l0_go, il23l0b, go_sem, reduceIte, Nat.reduceEqDiff, Nat.reduceAdd, Int.reduceEq, Nat.reduceLeDiff, Nat.reduceLT, Nat.reduceBEq, Nat.reduceMul, Nat.reduceSub, Int.reduceToNat, Int.reduceLE, Int.reduceLT, Int.reduceAdd, Int.reduceSub, Int.reduceMul, Int.reduceNeg, Int.reduceDiv, Int.reduceMod, Int.reduceTDiv, Int.reduceTMod, Int.reducePow, hs, hget, hlt, hw, encD_cells, d1, w1, w2, w3, w4, w5, rowG_is, rowG_es, rowG_mr, hroom] <;> (repeat' ((first | with_reducible refine brG_intro (fun hc => ?_) (fun hc => ?_) | with_reducible refine brC_intro (fun hc => ?_) (fun hc => ?_) | ((with_reducible refine c_opsD ?_); have hc := @List.length_nil Nat) | ((with_reducible refine c_opsT ?_); have hc := @List.length_nil Nat) | ((with_reducible refine and_crit ?_ ?_); rfl; have hc := @List.length_nil Nat) | ((with_reducible refine crit_done ?_); rfl) | ((with_reducible refine mkC_go (fun _ => ?_)); have hc := @List.length_nil Nat) | ((with_reducible refine mkL_go (fun _ => ?_)); have hc := @List.length_nil Nat)) <;> (try simp only [Bool.not_eq_true', Bool.not_eq_false', Bool.not_true, Bool.not_false] at hc) <;> (try simp only [hc, go_sem, reduceIte, Nat.reduceEqDiff, Nat.reduceAdd, Int.reduceEq, Nat.reduceLeDiff, Nat.reduceLT, Nat.reduceBEq, Nat.reduceMul, Nat.reduceSub, Int.reduceToNat, Int.reduceLE, Int.reduceLT, Int.reduceAdd, Int.reduceSub, Int.reduceMul, Int.reduceNeg, Int.reduceDiv, Int.reduceMod, Int.reduceTDiv, Int.reduceTMod, Int.reducePow, hs, hget, hlt, hw, encD_cells, d1, w1, w2, w3, w4, w5, rowG_is, rowG_es, rowG_mr, hroom]))))
      all_goals (refine hk _ _ ⟨?_, ?_, hb⟩ <;> simp only [go_sem, reduceIte, Nat.reduceEqDiff, Nat.reduceAdd, Int.reduceEq, Nat.reduceLeDiff, Nat.reduceLT, Nat.reduceBEq, Nat.reduceMul, Nat.reduceSub, Int.reduceToNat, Int.reduceLE, Int.reduceLT, Int.reduceAdd, Int.reduceSub, Int.reduceMul, Int.reduceNeg, Int.reduceDiv, Int.reduceMod, Int.reduceTDiv, Int.reduceTMod, Int.reducePow, hs, hw, dstp, ← rowG_push, encC, List.length_append])
    · have d1 : decide ((i : Int) < 12) = false := decide_eq_false (by omega)
      simp only [if_neg h12, ctlK_out] at hk
      (simp only [il23l0_go, il23l0b, go_sem, reduceIte, Nat.reduceEqDiff, Nat.reduceAdd, Int.reduceEq, Nat.reduceLeDiff, Nat.reduceLT, Nat.reduceBEq, Nat.reduceMul, Nat.reduceSub, Int.reduceToNat, Int.reduceLE, Int.reduceLT, Int.reduceAdd, Int.reduceSub, Int.reduceMul, Int.reduceNeg, Int.reduceDiv, Int.reduceMod, Int.reduceTDiv, Int.reduceTMod, Int.reducePow, hs, hget, hlt, hw, d1] <;> (repeat' ((first | with_reducible refine brG_intro (fun hc => ?_) (fun hc => ?_) | with_reducible refine brC_intro (fun hc => ?_) (fun hc => ?_) | ((with_reducible refine c_opsD ?_); have hc := @List.length_nil Nat) | ((with_reducible refine c_opsT ?_); have hc := @List.length_nil Nat) | ((with_reducible refine and_crit ?_ ?_); rfl; have hc := @List.length_nil Nat) | ((with_reducible refine crit_done ?_); rfl) | ((with_reducible refine mkC_go (fun _ => ?_)); have hc := @List.length_nil Nat) | ((with_reducible refine mkL_go (fun _ => ?_)); have hc := @List.length_nil Nat)) <;> (try simp only [Bool.not_eq_true', Bool.not_eq_false', Bool.not_true, Bool.not_false] at hc) <;> (try simp only [hc, go_sem, reduceIte, Nat.reduceEqDiff, Nat.reduceAdd, Int.reduceEq, Nat.reduceLeDiff, Nat.reduceLT, Nat.reduceBEq, Nat.reduceMul, Nat.reduceSub, Int.reduceToNat, Int.reduceLE, Int.reduceLT, Int.reduceAdd, Int.reduceSub, Int.reduceMul, Int.reduceNeg, Int.reduceDiv, Int.reduceMod, Int.reduceTDiv, Int.reduceTMod, Int.reducePow, hs, hget, hlt, hw, d1]))))
      all_goals (refine hk _ _ _ ⟨?_, rfl, rfl⟩ <;> simp only [go_sem, reduceIte, Nat.reduceEqDiff, Nat.reduceAdd, Int.reduceEq, Nat.reduceLeDiff, Nat.reduceLT, Nat.reduceBEq, Nat.reduceMul, Nat.reduceSub, Int.reduceToNat, Int.reduceLE, Int.reduceLT, Int.reduceAdd, Int.reduceSub, Int.reduceMul, Int.reduceNeg, Int.reduceDiv, Int.reduceMod, Int.reduceTDiv, Int.reduceTMod, Int.reducePow, hs])
  · intro z e h Y R hlt ⟨hs, hh, hz⟩ hk
    subst hh
    (simp only [il23l0_go, il23l0b, go_sem, reduceIte, Nat.reduceEqDiff, Nat.reduceAdd, Int.reduceEq, Nat.reduceLeDiff, Nat.reduceLT, Nat.reduceBEq, Nat.reduceMul, Nat.reduceSub, Int.reduceToNat, Int.reduceLE, Int.reduceLT, Int.reduceAdd, Int.reduceSub, Int.reduceMul, Int.reduceNeg, Int.reduceDiv, Int.reduceMod, Int.reduceTDiv, Int.reduceTMod, Int.reducePow, hs, hlt] <;> (repeat' ((first | with_reducible refine brG_intro (fun hc => ?_) (fun hc => ?_) | with_reducible refine brC_intro (fun hc => ?_) (fun hc => ?_) | ((with_reducible refine c_opsD ?_); have hc := @List.length_nil Nat) | ((with_reducible refine c_opsT ?_); have hc := @List.length_nil Nat) | ((with_reducible refine and_crit ?_ ?_); rfl; have hc := @List.length_nil Nat) | ((with_reducible refine crit_done ?_); rfl) | ((with_reducible refine mkC_go (fun _ => ?_)); have hc := @List.length_nil Nat) | ((with_reducible refine mkL_go (fun _ => ?_)); have hc := @List.length_nil Nat)) <;> (try simp only [Bool.not_eq_true', Bool.not_eq_false', Bool.not_true, Bool.not_false] at hc) <;> (try simp only [hc, go_sem, reduceIte, Nat.reduceEqDiff, Nat.reduceAdd, Int.reduceEq, Nat.reduceLeDiff, Nat.reduceLT, Nat.reduceBEq, Nat.reduceMul, Nat.reduceSub, Int.reduceToNat, Int.reduceLE, Int.reduceLT, Int.reduceAdd, Int.reduceSub, Int.reduceMul, Int.reduceNeg, Int.reduceDiv, Int.reduceMod, Int.reduceTDiv, Int.reduceTMod, Int.reducePow, hs, hlt]))))
    all_goals (refine hk _ _ _ ⟨?_, rfl, rfl⟩ <;> simp only [go_sem, reduceIte, Nat.reduceEqDiff, Nat.reduceAdd, Int.reduceEq, Nat.reduceLeDiff, Nat.reduceLT, Nat.reduceBEq, Nat.reduceMul, Nat.reduceSub, Int.reduceToNat, Int.reduceLE, Int.reduceLT, Int.reduceAdd, Int.reduceSub, Int.reduceMul, Int.reduceNeg, Int.reduceDiv, Int.reduceMod, Int.reduceTDiv, Int.reduceTMod, Int.reducePow, hs, id])
  · refine ⟨?_, rfl, ?_⟩
    · simp only [go_sem, reduceIte, Nat.reduceEqDiff, Nat.reduceAdd, Int.reduceEq, Nat.reduceLeDiff, Nat.reduceLT, Nat.reduceBEq, Nat.reduceMul, Nat.reduceSub, Int.reduceToNat, Int.reduceLE, Int.reduceLT, Int.reduceAdd, Int.reduceSub, Int.reduceMul, Int.reduceNeg, Int.reduceDiv, Int.reduceMod, Int.reduceTDiv, Int.reduceTMod, Int.reducePow]
    · simp
  · intro x e h' ⟨h1, h2, h3⟩
    subst h2 h3
    rw [foldC_cut] at h1 ⊢
    change _ = AV.ms 0 (lstD l).length 0 (lstD l).length 2 false at h1
    change wc _ _ _ _ _ _ _ _ _ [rowG 2 encC (lstD l)]
    (simp only [il23c, go_sem, reduceIte, Nat.reduceEqDiff, Nat.reduceAdd, Int.reduceEq, Nat.reduceLeDiff, Nat.reduceLT, Nat.reduceBEq, Nat.reduceMul, Nat.reduceSub, Int.reduceToNat, Int.reduceLE, Int.reduceLT, Int.reduceAdd, Int.reduceSub, Int.reduceMul, Int.reduceNeg, Int.reduceDiv, Int.reduceMod, Int.reduceTDiv, Int.reduceTMod, Int.reducePow, h1, rowG_is, rowG_es, rowG_mr] <;> (repeat' ((first | with_reducible refine brG_intro (fun hc => ?_) (fun hc => ?_) | with_reducible refine brC_intro (fun hc => ?_) (fun hc => ?_) | ((with_reducible refine c_opsD ?_); have hc := @List.length_nil Nat) | ((with_reducible refine c_opsT ?_); have hc := @List.length_nil Nat) | ((with_reducible refine and_crit ?_ ?_); rfl; have hc := @List.length_nil Nat) | ((with_reducible refine crit_done ?_); rfl) | ((with_reducible refine mkC_go (fun _ => ?_)); have hc := @List.length_nil Nat) | ((with_reducible refine mkL_go (fun _ => ?_)); have hc := @List.length_nil Nat)) <;> (try simp only [Bool.not_eq_true', Bool.not_eq_false', Bool.not_true, Bool.not_false] at hc) <;> (try simp only [hc, go_sem, reduceIte, Nat.reduceEqDiff, Nat.reduceAdd, Int.reduceEq, Nat.reduceLeDiff, Nat.reduceLT, Nat.reduceBEq, Nat.reduceMul, Nat.reduceSub, Int.reduceToNat, Int.reduceLE, Int.reduceLT, Int.reduceAdd, Int.reduceSub, Int.reduceMul, Int.reduceNeg, Int.reduceDiv, Int.reduceMod, Int.reduceTDiv, Int.reduceTMod, Int.reducePow, h1, rowG_is, rowG_es, rowG_mr]))))

end Go.Proofs.Ytkamfflnfnjbeaa
