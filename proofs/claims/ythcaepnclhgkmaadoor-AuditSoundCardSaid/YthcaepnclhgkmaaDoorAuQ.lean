/- A log without a fault, stream by stream: the numbers received on an ordered stream stand among the numbers sent in the order of their sending. Nothing here speaks of the program. -/
import Derived.Test.YthcaepnclhgkmaaDoorAuM
namespace Go.Proofs.YthcaepnclhgkmaaDoor
open Go Go.Abs
set_option linter.unusedSimpArgs false
set_option linter.unusedVariables false

theorem snoc_rec {α : Type} {P : List α → Prop} (h0 : P []) (h1 : ∀ l a, P l → P (l ++ [a])) : ∀ l, P l := by
  have H : ∀ l : List α, P l.reverse := by
    intro l
    induction l with
    | nil => exact h0
    | cons a l ih => rw [List.reverse_cons]; exact h1 _ _ ih
  intro l
  have h := H l.reverse
  rwa [List.reverse_reverse] at h

theorem refF_fk {rs : List Ru} : ∀ (r p : List Nt) (x : Nt), refF rs p (r ++ [x]) = none → fk rs (p ++ r) x = 0 := by
  intro r
  induction r with
  | nil =>
    intro p x h
    simp only [List.nil_append, refF] at h
    split at h
    · rename_i h0; rw [List.append_nil]; exact h0
    · exact (by cases h)
  | cons y r ih =>
    intro p x h
    simp only [List.cons_append, refF] at h
    split at h
    · have := ih (p ++ [y]) x h
      rwa [List.append_assoc, List.singleton_append] at this
    · exact (by cases h)

/-- The numbers of the notes of a kind on a stream. -/
def nums (k s : Int) (p : List Nt) : List Int := (p.filter fun y => decide (y.s = s) && decide (y.k = k)).map (·.q)
theorem nums_app (k s : Int) (p q : List Nt) : nums k s (p ++ q) = nums k s p ++ nums k s q := by simp [nums]
theorem nums_one (k s : Int) (x : Nt) : nums k s [x] = if x.s = s ∧ x.k = k then [x.q] else [] := by
  unfold nums
  by_cases h : x.s = s ∧ x.k = k
  · rw [if_pos h]; simp [List.filter, h.1, h.2]
  · rw [if_neg h]
    have : (decide (x.s = s) && decide (x.k = k)) = false := by
      by_cases a : x.s = s
      · simp [a]; intro b; exact h ⟨a, b⟩
      · simp [a]
    simp [List.filter, this]

theorem fst1_stay {k s q : Int} {p : List Nt} {j : Nat} (x : Nt) (h : fst1 k s q p = some j) : fst1 k s q (p ++ [x]) = some j := by
  rw [fst1_app, h]
theorem nums_mono {k s : Int} {p q : List Nt} (h : p.Sublist q) : (nums k s p).Sublist (nums k s q) := (h.filter _).map _

/-- What a note without a fault says. -/
theorem fk_got {rs : List Ru} {p : List Nt} {x : Nt} (h2 : x.k = 2) (h : fk rs p x = 0) : ∃ r i, ruleOf rs x.s = some r ∧ fst1 1 x.s x.q p = some i ∧ fst1 2 x.s x.q p = none ∧ r.le ≤ x.t - tAt p i ∧ x.t - tAt p i ≤ r.mo ∧ (r.od = true → overt p x.s i = false) := by
  unfold fk at h
  cases hr : ruleOf rs x.s with
  | none => rw [hr] at h; simp at h
  | some r =>
    rw [hr] at h
    simp only [h2] at h
    rw [if_neg (by omega)] at h
    cases hj : fst1 1 x.s x.q p with
    | none => rw [hj] at h; simp at h
    | some j =>
      rw [hj] at h
      simp only at h
      by_cases a : (fst1 2 x.s x.q p).isSome = true
      · rw [if_pos a] at h; simp at h
      · rw [if_neg a] at h
        by_cases b : x.t - tAt p j < r.le
        · rw [if_pos b] at h; simp at h
        · rw [if_neg b] at h
          by_cases c : r.mo < x.t - tAt p j
          · rw [if_pos c] at h; simp at h
          · rw [if_neg c] at h
            by_cases d : r.od = true ∧ overt p x.s j = true
            · rw [if_pos d] at h; simp at h
            · refine ⟨r, j, rfl, rfl, by simpa using a, by omega, by omega, fun e => ?_⟩
              cases f : overt p x.s j with
              | false => rfl
              | true => exact absurd ⟨e, f⟩ d

theorem got_sent {rs : List Ru} : ∀ p : List Nt, refF rs [] p = none → ∀ y ∈ p, y.k = 2 → ∃ j, fst1 1 y.s y.q p = some j := by
  intro p
  refine snoc_rec (P := fun p => refF rs [] p = none → ∀ y ∈ p, y.k = 2 → ∃ j, fst1 1 y.s y.q p = some j) ?_ ?_ p
  · intro _ y hy; exact (by cases hy)
  · intro p x ih hn y hy h2
    have hp : refF rs [] p = none := refF_none p [] [x] hn
    have hx : fk rs p x = 0 := by simpa using refF_fk p [] x hn
    rcases List.mem_append.mp hy with hy | hy
    · obtain ⟨j, hj⟩ := ih hp y hy h2
      exact ⟨j, fst1_stay x hj⟩
    · have e : y = x := by simpa using hy
      subst e
      obtain ⟨r, i, _, hi, _⟩ := fk_got h2 hx
      exact ⟨i, fst1_stay _ hi⟩

theorem nums_sub {s : Int} {rs : List Ru} {r : Ru} (hr : ruleOf rs s = some r) (ho : r.od = true) : ∀ p : List Nt, refF rs [] p = none → ∀ i : Nat, (∀ y ∈ p, y.k = 2 → y.s = s → ∃ j, fst1 1 s y.q p = some j ∧ j < i) → (nums 2 s p).Sublist (nums 1 s (p.take i)) := by
  intro p
  refine snoc_rec (P := fun p => refF rs [] p = none → ∀ i : Nat, (∀ y ∈ p, y.k = 2 → y.s = s → ∃ j, fst1 1 s y.q p = some j ∧ j < i) → (nums 2 s p).Sublist (nums 1 s (p.take i))) ?_ ?_ p
  · intro _ i _; simp [nums]
  · intro p x ih hn i hi
    have hp : refF rs [] p = none := refF_none p [] [x] hn
    have hx : fk rs p x = 0 := by simpa using refF_fk p [] x hn
    have hsent : ∀ y ∈ p, y.k = 2 → y.s = s → ∃ j, fst1 1 s y.q p = some j := by
      intro y hy h2 hs
      have := got_sent p hp y hy h2
      rwa [hs] at this
    rw [nums_app, nums_one]
    by_cases hxs : x.s = s ∧ x.k = 2
    · rw [if_pos hxs]
      obtain ⟨hs, h2⟩ := hxs
      obtain ⟨r', j, hr', hj, hng, _, _, hov⟩ := fk_got h2 hx
      rw [hs] at hr' hj hng hov
      have er : r' = r := by rw [hr] at hr'; exact (Option.some.inj hr').symm
      subst er
      have hov := hov ho
      obtain ⟨z, hz, hzn⟩ := fst1_some hj
      obtain ⟨_, _, hzq⟩ := isN_iff.mp hzn
      have hjl := fst1_lt hj
      obtain ⟨j', hj', hji⟩ := hi x (List.mem_append_right _ (by simp)) h2 hs
      rw [fst1_stay x hj] at hj'
      cases hj'
      have hsub := ih hp j (by
        intro y hy hy2 hys
        obtain ⟨jy, hjy⟩ := hsent y hy hy2 hys
        refine ⟨jy, hjy, ?_⟩
        have hle : ¬ j < jy := by
          intro hlt
          have : overt p s j = true := by
            unfold overt
            rw [List.any_eq_true]
            exact ⟨y, hy, by simp [hy2, hys, hjy, hlt]⟩
          rw [this] at hov
          exact (by cases hov)
        have hne : jy ≠ j := by
          intro e
          subst e
          obtain ⟨z', hz', hzn'⟩ := fst1_some hjy
          rw [hz] at hz'
          cases hz'
          have hq : y.q = x.q := by rw [← (isN_iff.mp hzn').2.2, hzq]
          have := fst1_none.mp hng y hy
          rw [isN_iff.mpr ⟨hy2, hys, hq⟩] at this
          exact (by cases this)
        omega)
      have h1 : nums 1 s (p.take (j + 1)) = nums 1 s (p.take j) ++ [x.q] := by
        rw [List.take_add_one, hz, nums_app]
        obtain ⟨hz1, hz2, _⟩ := isN_iff.mp hzn
        simp only [Option.toList]
        rw [nums_one, if_pos ⟨hz2, hz1⟩, hzq]
      refine List.Sublist.trans (hsub.append (List.Sublist.refl _)) ?_
      rw [← h1]
      refine nums_mono ?_
      have : p.take (j + 1) = ((p ++ [x]).take i).take (j + 1) := by
        rw [List.take_take, Nat.min_eq_left (by omega), List.take_append_of_le_length (by omega)]
      rw [this]
      exact List.take_sublist _ _
    · rw [if_neg hxs, List.append_nil]
      have hsub := ih hp i (by
        intro y hy hy2 hys
        obtain ⟨jy, hjy⟩ := hsent y hy hy2 hys
        obtain ⟨j', hj', hji⟩ := hi y (List.mem_append_left _ hy) hy2 hys
        rw [fst1_stay x hjy] at hj'
        cases hj'
        exact ⟨jy, hjy, hji⟩)
      refine hsub.trans (nums_mono ?_)
      rw [List.take_append]
      exact List.sublist_append_left _ _

/-- The statement's own test: the received numbers are struck off along the sent ones. -/
def strike : List Int → List Int → List Int
  | l, [] => l
  | l, n :: o => strike (if l.head? = some n then l.tail else l) o
theorem strike_nil {l o : List Int} (h : l.Sublist o) : strike l o = [] := by
  induction o generalizing l with
  | nil => cases h; rfl
  | cons n o ih =>
    unfold strike
    refine ih ?_
    split
    · rename_i e
      cases l with
      | nil => exact (by cases e)
      | cons a l =>
        have : a = n := by simpa using e
        subst this
        exact List.cons_sublist_cons.mp h
    · rename_i e
      cases h with
      | cons _ h => exact h
      | cons_cons _ h => exact absurd rfl e

theorem strike_ref {rs : List Ru} {r : Ru} {s : Int} {p : List Nt} (hr : ruleOf rs s = some r) (ho : r.od = true) (hn : refF rs [] p = none) : strike (nums 2 s p) (nums 1 s p) = [] := by
  refine strike_nil ?_
  have := nums_sub hr ho p hn p.length (by
    intro y hy h2 hs
    obtain ⟨j, hj⟩ := got_sent p hn y hy h2
    rw [hs] at hj
    exact ⟨j, hj, fst1_lt hj⟩)
  rwa [List.take_length] at this
end Go.Proofs.YthcaepnclhgkmaaDoor
