/- What the counters of a note's frame are in a log without a fault. Nothing here speaks of the program. -/
import Derived.Test.YthcaepnclhgkmaaDoorAuT
namespace Go.Proofs.YthcaepnclhgkmaaDoor
open Go Go.Abs
set_option linter.unusedSimpArgs false
set_option linter.unusedVariables false

def oth (x y : Nt) : Bool := decide (y.s = x.s) && (decide (y.q = x.q) && !decide (y.k = x.k))
theorem cnt_lo (x : Nt) (i : Nat) : ∀ (l : List Nt) (j : Nat) (z : Nat × Nat), j + l.length ≤ i → foldC (fun j y z => Ctl.go (cntF i x j y z)) id j l z = (z.1 + l.countP (oth x), z.2) := by
  intro l
  induction l with
  | nil => intro j z _; rfl
  | cons y l ih =>
    intro j z h
    simp only [List.length_cons] at h
    rw [foldC_go (s' := cntF i x j y z) rfl, ih _ _ (by omega), List.countP_cons]
    unfold cntF oth
    by_cases c : y.s = x.s ∧ y.q = x.q ∧ ¬ y.k = x.k
    · rw [if_pos c, if_pos (by omega)]; simp [c.1, c.2.1, c.2.2]; omega
    · rw [if_neg c]
      have : (decide (y.s = x.s) && (decide (y.q = x.q) && !decide (y.k = x.k))) = false := by
        cases hb : (decide (y.s = x.s) && (decide (y.q = x.q) && !decide (y.k = x.k))) with
        | false => rfl
        | true => exact absurd (by simpa using hb) c
      simp [this]
theorem cnt_hi (x : Nt) (i : Nat) : ∀ (l : List Nt) (j : Nat) (z : Nat × Nat), i ≤ j → foldC (fun j y z => Ctl.go (cntF i x j y z)) id j l z = (z.1, z.2 + l.countP (oth x)) := by
  intro l
  induction l with
  | nil => intro j z _; rfl
  | cons y l ih =>
    intro j z h
    rw [foldC_go (s' := cntF i x j y z) rfl, ih _ _ (by omega), List.countP_cons]
    unfold cntF oth
    by_cases c : y.s = x.s ∧ y.q = x.q ∧ ¬ y.k = x.k
    · rw [if_pos c, if_neg (by omega)]; simp [c.1, c.2.1, c.2.2]; omega
    · rw [if_neg c]
      have : (decide (y.s = x.s) && (decide (y.q = x.q) && !decide (y.k = x.k))) = false := by
        cases hb : (decide (y.s = x.s) && (decide (y.q = x.q) && !decide (y.k = x.k))) with
        | false => rfl
        | true => exact absurd (by simpa using hb) c
      simp [this]
theorem cnt_app (x : Nt) (i : Nat) : ∀ (l m : List Nt) (j : Nat) (z : Nat × Nat), foldC (fun j y z => Ctl.go (cntF i x j y z)) id j (l ++ m) z = foldC (fun j y z => Ctl.go (cntF i x j y z)) id (j + l.length) m (foldC (fun j y z => Ctl.go (cntF i x j y z)) id j l z) := by
  intro l
  induction l with
  | nil => intro m j z; rfl
  | cons y l ih =>
    intro m j z
    rw [List.cons_append, foldC_go (s' := cntF i x j y z) rfl, foldC_go (s' := cntF i x j y z) rfl, ih]
    simp only [List.length_cons]
    rw [show j + 1 + l.length = j + (l.length + 1) by omega]
theorem cnt_all (x : Nt) (A B : List Nt) : foldC (fun j y z => Ctl.go (cntF A.length x j y z)) id 0 (A ++ x :: B) (0, 0) = (A.countP (oth x), B.countP (oth x)) := by
  rw [cnt_app, cnt_lo x A.length A 0 (0, 0) (by omega), cnt_hi x A.length (x :: B) (0 + A.length) _ (by omega), List.countP_cons]
  simp [oth]

theorem oth_isN {x y : Nt} (hx : x.k = 1 ∨ x.k = 2) (hy : y.k = 1 ∨ y.k = 2) : oth x y = isN (3 - x.k) x.s x.q y := by
  unfold oth isN
  by_cases a : y.s = x.s
  · by_cases b : y.q = x.q
    · rcases hx with c | c <;> rcases hy with d | d <;> simp [a, b, c, d]
    · simp [a, b]
  · simp [a]
theorem oth_zero {x : Nt} {l : List Nt} {k : Int} (hx : x.k = 1 ∨ x.k = 2) (hl : ∀ y ∈ l, y.k = 1 ∨ y.k = 2) (hk : 3 - x.k = k) (h : ∀ y ∈ l, isN k x.s x.q y = false) : l.countP (oth x) = 0 := by
  rw [List.countP_eq_zero]
  intro y hy e
  rw [oth_isN hx (hl y hy), hk, h y hy] at e
  exact (by cases e)

theorem cnt_got {rs : List Ru} {A B : List Nt} {x : Nt} (hk : ∀ y ∈ A ++ x :: B, y.k = 1 ∨ y.k = 2) (hn : refF rs [] (A ++ x :: B) = none) (h2 : x.k = 2) : A.countP (oth x) = 1 ∧ B.countP (oth x) = 0 := by
  obtain ⟨r, A1, z, A2, hr, rfl, hz, _, _, u1, u2, u3⟩ := got_one hk hn h2
  have hx : x.k = 1 ∨ x.k = 2 := .inr h2
  have k1 : ∀ y ∈ A1, y.k = 1 ∨ y.k = 2 := fun y hy => hk y (by simp [hy])
  have k2 : ∀ y ∈ A2, y.k = 1 ∨ y.k = 2 := fun y hy => hk y (by simp [hy])
  have k3 : ∀ y ∈ B, y.k = 1 ∨ y.k = 2 := fun y hy => hk y (by simp [hy])
  have e3 : 3 - x.k = 1 := by omega
  refine ⟨?_, oth_zero hx k3 e3 u3⟩
  rw [List.countP_append, List.countP_cons, oth_zero hx k1 e3 u1, oth_zero hx k2 e3 u2, oth_isN hx (hk z (by simp)), e3, hz]
  rfl
theorem cnt_sent {rs : List Ru} {A B : List Nt} {x : Nt} (hk : ∀ y ∈ A ++ x :: B, y.k = 1 ∨ y.k = 2) (hn : refF rs [] (A ++ x :: B) = none) (h1 : x.k = 1) : A.countP (oth x) = 0 :=
  oth_zero (.inl h1) (fun y hy => hk y (by simp [hy])) (by omega) (sent_none hk hn h1)

theorem lost_none {rs : List Ru} {log : List Nt} {u : Int} : ∀ (l : List Nt) (i : Nat), foldC (fun i x (_ : Unit) => if lostQ rs log u x = true then Ctl.out (some (i, x)) else Ctl.go ()) (fun _ => (none : Option (Nat × Nt))) i l () = none → ∀ x ∈ l, lostQ rs log u x = false := by
  intro l
  induction l with
  | nil => intro i _ x hx; exact (by cases hx)
  | cons y l ih =>
    intro i h x hx
    cases hq : lostQ rs log u y with
    | true => rw [foldC_out (r := some (i, y)) (by simp [hq])] at h; exact (by cases h)
    | false =>
      rw [foldC_go (s' := ()) (by simp [hq])] at h
      rcases List.mem_cons.mp hx with rfl | hx
      · exact hq
      · exact ih _ h x hx

/-- A frame that nobody received still has time. -/
theorem not_lost {rs : List Ru} {A B : List Nt} {x : Nt} {u : Int} (hk : ∀ y ∈ A ++ x :: B, y.k = 1 ∨ y.k = 2) (hn : refF rs [] (A ++ x :: B) = none) (h1 : x.k = 1) (hl : lostF rs (A ++ x :: B) u = none) (hb : B.countP (oth x) = 0) : ¬ x.t + (ruleD rs x.s).mo ≤ u := by
  have := lost_none (A ++ x :: B) 0 hl x (by simp)
  intro hle
  unfold lostQ at this
  have hno : fst1 2 x.s x.q (A ++ x :: B) = none := by
    refine fst1_none.mpr fun y hy => ?_
    rcases List.mem_append.mp hy with hy | hy
    · exact sent_none hk hn h1 y hy
    · rcases List.mem_cons.mp hy with rfl | hy
      · simp [isN, h1]
      · have hz := List.countP_eq_zero.mp hb y hy
        rw [oth_isN (.inl h1) (hk y (by simp [hy])), show 3 - x.k = 2 by omega] at hz
        simpa using hz
  rw [hno] at this
  simp [h1, hle] at this
end Go.Proofs.YthcaepnclhgkmaaDoor
