/- What comes behind the first fault does not change it. -/
import Derived.Test.YthcaepnclhgkmaaDoorAuK
namespace Go.Proofs.YthcaepnclhgkmaaDoor
open Go Go.Abs
set_option linter.unusedSimpArgs false
set_option linter.unusedVariables false
set_option maxRecDepth 100000
set_option maxHeartbeats 4000000

theorem fk_range (rs : List Ru) (p : List Nt) (x : Nt) : 0 ≤ fk rs p x ∧ fk rs p x ≤ 7 := by
  unfold fk
  split
  · omega
  · split
    · split <;> omega
    · split
      · omega
      · repeat' split
        all_goals omega
theorem refF_range {rs : List Ru} : ∀ (r p : List Nt) {k : Int} {i : Nat} {x : Nt}, refF rs p r = some (k, i, x) → (1 ≤ k ∧ k ≤ 7) ∧ p.length ≤ i ∧ i < p.length + r.length ∧ (p ++ r)[i]? = some x := by
  intro r
  induction r with
  | nil => intro p k i x h; simp [refF] at h
  | cons y r ih =>
    intro p k i x h
    rw [refF] at h
    split at h
    · obtain ⟨h1, h2, h3, h4⟩ := ih _ h
      simp only [List.length_append, List.length_cons, List.length_nil] at h2 h3
      refine ⟨h1, by omega, by simp only [List.length_cons]; omega, by simpa using h4⟩
    · rename_i q
      simp only [Option.some.injEq, Prod.mk.injEq] at h
      obtain ⟨rfl, rfl, rfl⟩ := h
      have := fk_range rs p y
      refine ⟨⟨by omega, this.2⟩, Nat.le_refl _, by simp, by simp⟩
/-- What is found in the front is found in the whole. -/
theorem refF_app {rs : List Ru} : ∀ (r p q : List Nt) {z : Int × Nat × Nt}, refF rs p r = some z → refF rs p (r ++ q) = some z := by
  intro r
  induction r with
  | nil => intro p q z h; simp [refF] at h
  | cons y r ih =>
    intro p q z h
    rw [refF] at h
    rw [List.cons_append, refF]
    split at h
    · rename_i g; rw [if_pos g]; exact ih _ q h
    · rename_i g; rw [if_neg g]; exact h
theorem refF_none {rs : List Ru} : ∀ (r p q : List Nt), refF rs p (r ++ q) = none → refF rs p r = none := by
  intro r p q h
  cases hz : refF rs p r with
  | none => rfl
  | some z => rw [refF_app r p q hz] at h; cases h
theorem refF_take {rs : List Ru} : ∀ (r p : List Nt) {k : Int} {i : Nat} {x : Nt}, refF rs p r = some (k, p.length + i, x) → refF rs p (r.take i) = none ∧ refF rs p (r.take (i + 1)) = some (k, p.length + i, x) := by
  intro r
  induction r with
  | nil => intro p k i x h; simp [refF] at h
  | cons y r ih =>
    intro p k i x h
    rw [refF] at h
    by_cases g : fk rs p y = 0
    · rw [if_pos g] at h
      have hr := (refF_range _ _ h).2.1
      simp only [List.length_append, List.length_cons, List.length_nil] at hr
      obtain ⟨j, rfl⟩ : ∃ j, i = j + 1 := ⟨i - 1, by omega⟩
      have e : p.length + (j + 1) = (p ++ [y]).length + j := by simp; omega
      rw [e] at h ⊢
      obtain ⟨h1, h2⟩ := ih _ h
      rw [List.take_succ_cons, List.take_succ_cons, refF, refF, if_pos g, if_pos g]
      exact ⟨h1, h2⟩
    · rw [if_neg g] at h
      simp only [Option.some.injEq, Prod.mk.injEq] at h
      obtain ⟨rfl, hi, rfl⟩ := h
      have hi0 : i = 0 := by omega
      subst hi0
      refine ⟨rfl, ?_⟩
      rw [List.take_succ_cons, refF, if_neg g]
      rfl

theorem chkN_take : ∀ {l : List Nt} {b : Int}, chkN b l = true → ∀ i, chkN b (l.take i) = true := by
  intro l
  induction l with
  | nil => intro b _ i; simp [chkN]
  | cons x l ih =>
    intro b h i
    simp only [chkN, Bool.and_eq_true] at h
    cases i with
    | zero => rfl
    | succ i => simp only [List.take_succ_cons, chkN, Bool.and_eq_true]; exact ⟨h.1, ih h.2 i⟩

theorem logF_app : ∀ (m q : List Mv) (i : Nat) (a : Int), i + m.length ≤ 200 → ∃ r, logF i a (m ++ q) = logF i a m ++ r := by
  intro m
  induction m with
  | nil => intro q i a _; exact ⟨logF i a q, rfl⟩
  | cons x m ih =>
    intro q i a h
    simp only [List.length_cons] at h
    obtain ⟨r, hr⟩ := ih q (i + 1) (a + x.wait) (by omega)
    refine ⟨r, ?_⟩
    rw [List.cons_append, logF, logF, if_pos (by omega), if_pos (by omega), hr]
    rfl

theorem last_ans (cl : Bool) (log : List Nt) (hl : log.length ≤ 1000) : ans Tryd.prog pol 22 [.sl cl 4 (log.map encN)] = some (J (lastT log)) := by
  refine ans_go 1 1 il22_eq (Nat.le_of_ble_eq_true rfl) ?_
  cases hg : log.getLast? with
  | none =>
    have : log = [] := by simpa using hg
    subst this
    have d0 : decide (((0 : Nat) : Int) = 0) = true := rfl
    (simp only [il22c, go_sem, reduceIte, Nat.reduceEqDiff, Nat.reduceAdd, Int.reduceEq, Nat.reduceLeDiff, Nat.reduceLT, Nat.reduceBEq, Nat.reduceMul, Nat.reduceSub, Int.reduceToNat, Int.reduceLE, Int.reduceLT, Int.reduceAdd, Int.reduceSub, Int.reduceMul, Int.reduceNeg, Int.reduceDiv, Int.reduceMod, Int.reduceTDiv, Int.reduceTMod, Int.reducePow, d0] <;> (repeat' ((first | with_reducible refine brG_intro (fun hc => ?_) (fun hc => ?_) | with_reducible refine brC_intro (fun hc => ?_) (fun hc => ?_) | ((with_reducible refine c_opsD ?_); have hc := @List.length_nil Nat) | ((with_reducible refine c_opsT ?_); have hc := @List.length_nil Nat) | ((with_reducible refine and_crit ?_ ?_); rfl; have hc := @List.length_nil Nat) | ((with_reducible refine crit_done ?_); rfl) | ((with_reducible refine mkC_go (fun _ => ?_)); have hc := @List.length_nil Nat) | ((with_reducible refine mkL_go (fun _ => ?_)); have hc := @List.length_nil Nat)) <;> (try simp only [Bool.not_eq_true', Bool.not_eq_false', Bool.not_true, Bool.not_false] at hc) <;> (try simp only [hc, go_sem, reduceIte, Nat.reduceEqDiff, Nat.reduceAdd, Int.reduceEq, Nat.reduceLeDiff, Nat.reduceLT, Nat.reduceBEq, Nat.reduceMul, Nat.reduceSub, Int.reduceToNat, Int.reduceLE, Int.reduceLT, Int.reduceAdd, Int.reduceSub, Int.reduceMul, Int.reduceNeg, Int.reduceDiv, Int.reduceMod, Int.reduceTDiv, Int.reduceTMod, Int.reducePow, d0]))))
    all_goals rfl
  | some y =>
    have hlen : 0 < log.length := by
      cases log with
      | nil => simp at hg
      | cons a l => simp
    have d0 : decide (((log.length : Nat) : Int) = 0) = false := decide_eq_false (by omega)
    have w0 : IntKind.i64.wrap (((log.length : Nat) : Int) - 1) = ((log.length - 1 : Nat) : Int) := by rw [wrap_i64 (by omega) (by omega)]; omega
    have h4 : (log.map encN)[log.length - 1]? = some (encN y) := by rw [List.getElem?_map, ← List.getLast?_eq_getElem?, hg]; rfl
    have e2 : lastT log = y.t := by rw [lastT, hg]
    rw [e2]
    (simp only [il22c, go_sem, reduceIte, Nat.reduceEqDiff, Nat.reduceAdd, Int.reduceEq, Nat.reduceLeDiff, Nat.reduceLT, Nat.reduceBEq, Nat.reduceMul, Nat.reduceSub, Int.reduceToNat, Int.reduceLE, Int.reduceLT, Int.reduceAdd, Int.reduceSub, Int.reduceMul, Int.reduceNeg, Int.reduceDiv, Int.reduceMod, Int.reduceTDiv, Int.reduceTMod, Int.reducePow, d0, w0, h4, encN_cells] <;> (repeat' ((first | with_reducible refine brG_intro (fun hc => ?_) (fun hc => ?_) | with_reducible refine brC_intro (fun hc => ?_) (fun hc => ?_) | ((with_reducible refine c_opsD ?_); have hc := @List.length_nil Nat) | ((with_reducible refine c_opsT ?_); have hc := @List.length_nil Nat) | ((with_reducible refine and_crit ?_ ?_); rfl; have hc := @List.length_nil Nat) | ((with_reducible refine crit_done ?_); rfl) | ((with_reducible refine mkC_go (fun _ => ?_)); have hc := @List.length_nil Nat) | ((with_reducible refine mkL_go (fun _ => ?_)); have hc := @List.length_nil Nat)) <;> (try simp only [Bool.not_eq_true', Bool.not_eq_false', Bool.not_true, Bool.not_false] at hc) <;> (try simp only [hc, go_sem, reduceIte, Nat.reduceEqDiff, Nat.reduceAdd, Int.reduceEq, Nat.reduceLeDiff, Nat.reduceLT, Nat.reduceBEq, Nat.reduceMul, Nat.reduceSub, Int.reduceToNat, Int.reduceLE, Int.reduceLT, Int.reduceAdd, Int.reduceSub, Int.reduceMul, Int.reduceNeg, Int.reduceDiv, Int.reduceMod, Int.reduceTDiv, Int.reduceTMod, Int.reducePow, d0, w0, h4, encN_cells]))))

end Go.Proofs.YthcaepnclhgkmaaDoor
