/- A log without a fault: every frame at most once on each side, received behind its sending and within its limits. Nothing here speaks of the program. -/
import Derived.Test.YthcaepnclhgkmaaDoorAuQ
namespace Go.Proofs.YthcaepnclhgkmaaDoor
open Go Go.Abs
set_option linter.unusedSimpArgs false
set_option linter.unusedVariables false

theorem fk_uniq {rs : List Ru} {p : List Nt} {x : Nt} (hk : x.k = 1 ∨ x.k = 2) (h : fk rs p x = 0) : ∀ y ∈ p, isN x.k x.s x.q y = false := by
  refine fst1_none.mp ?_
  rcases hk with hk | hk
  · rw [hk]
    unfold fk at h
    cases hr : ruleOf rs x.s with
    | none => rw [hr] at h; simp at h
    | some r =>
      rw [hr] at h
      simp only [hk] at h
      rw [if_pos trivial] at h
      by_cases a : (fst1 1 x.s x.q p).isSome = true
      · rw [if_pos a] at h; simp at h
      · simpa using a
  · rw [hk]
    obtain ⟨_, _, _, _, h', _⟩ := fk_got hk h
    exact h'

theorem fk_at {rs : List Ru} {A B : List Nt} {x : Nt} (hn : refF rs [] (A ++ x :: B) = none) : fk rs A x = 0 := by
  have h : refF rs [] (A ++ [x]) = none := refF_none (A ++ [x]) [] B (by rw [List.append_assoc, List.singleton_append]; exact hn)
  simpa using refF_fk A [] x h

theorem fk_rule {rs : List Ru} {p : List Nt} {x : Nt} (h : fk rs p x = 0) : ∃ r, ruleOf rs x.s = some r := by
  unfold fk at h
  cases hr : ruleOf rs x.s with
  | none => rw [hr] at h; simp at h
  | some r => exact ⟨r, rfl⟩

/-- No other note of its kind speaks of its frame. -/
theorem uniq {rs : List Ru} {A B : List Nt} {x : Nt} (hk : ∀ y ∈ A ++ x :: B, y.k = 1 ∨ y.k = 2) (hn : refF rs [] (A ++ x :: B) = none) : (∀ y ∈ A, isN x.k x.s x.q y = false) ∧ ∀ y ∈ B, isN x.k x.s x.q y = false := by
  refine ⟨fk_uniq (hk x (by simp)) (fk_at hn), ?_⟩
  intro y hy
  cases hb : isN x.k x.s x.q y with
  | false => rfl
  | true =>
    obtain ⟨B1, B2, rfl⟩ := List.append_of_mem hy
    obtain ⟨h1, h2, h3⟩ := isN_iff.mp hb
    have e : A ++ x :: (B1 ++ y :: B2) = (A ++ x :: B1) ++ y :: B2 := by simp
    rw [e] at hn hk
    have := fk_uniq (hk y (by simp)) (fk_at hn) x (by simp)
    rw [isN_iff.mpr ⟨h1.symm, h2.symm, h3.symm⟩] at this
    exact (by cases this)

theorem got_one {rs : List Ru} {A B : List Nt} {x : Nt} (hk : ∀ y ∈ A ++ x :: B, y.k = 1 ∨ y.k = 2) (hn : refF rs [] (A ++ x :: B) = none) (h2 : x.k = 2) :
    ∃ r A1 z A2, ruleOf rs x.s = some r ∧ A = A1 ++ z :: A2 ∧ isN 1 x.s x.q z = true ∧ r.le ≤ x.t - z.t ∧ x.t - z.t ≤ r.mo ∧
      (∀ y ∈ A1, isN 1 x.s x.q y = false) ∧ (∀ y ∈ A2, isN 1 x.s x.q y = false) ∧ ∀ y ∈ B, isN 1 x.s x.q y = false := by
  obtain ⟨r, i, hr, hi, _, hle, hmo, _⟩ := fk_got h2 (fk_at hn)
  obtain ⟨z, hz, hzn⟩ := fst1_some hi
  have ht : tAt A i = z.t := by unfold tAt; rw [hz]; rfl
  rw [ht] at hle hmo
  obtain ⟨A1, A2, rfl⟩ := List.append_of_mem (List.mem_of_getElem? hz)
  obtain ⟨h1, hs, hq⟩ := isN_iff.mp hzn
  have e : (A1 ++ z :: A2) ++ x :: B = A1 ++ z :: (A2 ++ x :: B) := by simp
  rw [e] at hn hk
  obtain ⟨u1, u2⟩ := uniq hk hn
  rw [h1, hs, hq] at u1 u2
  exact ⟨r, A1, z, A2, hr, rfl, hzn, hle, hmo, u1, fun y hy => u2 y (List.mem_append_left _ hy), fun y hy => u2 y (List.mem_append_right _ (List.mem_cons_of_mem _ hy))⟩

theorem sent_none {rs : List Ru} {A B : List Nt} {x : Nt} (hk : ∀ y ∈ A ++ x :: B, y.k = 1 ∨ y.k = 2) (hn : refF rs [] (A ++ x :: B) = none) (h1 : x.k = 1) : ∀ y ∈ A, isN 2 x.s x.q y = false := by
  intro y hy
  cases hb : isN 2 x.s x.q y with
  | false => rfl
  | true =>
    obtain ⟨h2, hs, hq⟩ := isN_iff.mp hb
    have hA : refF rs [] A = none := refF_none A [] (x :: B) hn
    obtain ⟨j, hj⟩ := got_sent A hA y hy h2
    rw [hs, hq] at hj
    obtain ⟨z, hz, hzn⟩ := fst1_some hj
    have := (uniq hk hn).1 z (List.mem_of_getElem? hz)
    rw [h1, hzn] at this
    exact (by cases this)
end Go.Proofs.YthcaepnclhgkmaaDoor
