/- Comparing lists of numbers, place by place. -/
import Derived.Test.YtboknhdkadcaeaaAbsLoop
set_option linter.unusedSimpArgs false
set_option linter.unusedVariables false
namespace Go.Abs
open Go

def cmp3 (a b : Int) : Int := if a < b then -1 else if b < a then 1 else 0
theorem cmp3_lt {a b : Int} (h : a < b) : cmp3 a b = -1 := by simp [cmp3, h]
theorem cmp3_gt {a b : Int} (h : b < a) : cmp3 a b = 1 := by simp [cmp3, h]; omega
theorem cmp3_self {a : Int} : cmp3 a a = 0 := by simp [cmp3]
theorem cmp3_eq {a b : Int} : cmp3 a b = 0 ↔ a = b := by
  unfold cmp3
  split
  · constructor <;> intro h <;> omega
  · split
    · constructor <;> intro h <;> omega
    · constructor
      · intro _; omega
      · intro _; rfl
theorem cmp3_neg {a b : Int} : cmp3 b a = - cmp3 a b := by
  unfold cmp3
  split <;> split <;> first | omega | (split <;> omega)

def cmpL : List Int → List Int → Int
  | x :: xs, y :: ys => if cmp3 x y = 0 then cmpL xs ys else cmp3 x y
  | _, _ => 0

theorem cmpL_self : ∀ xs, cmpL xs xs = 0 := by
  intro xs
  induction xs with
  | nil => rfl
  | cons x xs ih => simp [cmpL, cmp3_self, ih]

theorem cmpL_range : ∀ xs ys, cmpL xs ys = -1 ∨ cmpL xs ys = 0 ∨ cmpL xs ys = 1 := by
  intro xs
  induction xs with
  | nil => intro ys; right; left; cases ys <;> rfl
  | cons x xs ih =>
    intro ys
    cases ys with
    | nil => right; left; rfl
    | cons y ys =>
      simp only [cmpL]
      split
      · exact ih ys
      · unfold cmp3 at *; split
        · left; rfl
        · split
          · right; right; rfl
          · right; left; rfl

theorem cmpL_neg : ∀ xs ys, cmpL ys xs = - cmpL xs ys := by
  intro xs
  induction xs with
  | nil => intro ys; cases ys <;> rfl
  | cons x xs ih =>
    intro ys
    cases ys with
    | nil => rfl
    | cons y ys =>
      simp only [cmpL]
      rw [cmp3_neg (a := x) (b := y)]
      by_cases h : cmp3 x y = 0
      · simp [h, ih ys]
      · rw [if_neg (by omega), if_neg h]

theorem cmpL_zero : ∀ xs ys, xs.length = ys.length → (cmpL xs ys = 0 ↔ xs = ys) := by
  intro xs
  induction xs with
  | nil => intro ys h; cases ys with
    | nil => simp [cmpL]
    | cons y ys => simp at h
  | cons x xs ih =>
    intro ys h
    cases ys with
    | nil => simp at h
    | cons y ys =>
      simp only [cmpL, List.length_cons, Nat.add_right_cancel_iff, List.cons.injEq] at *
      by_cases h0 : cmp3 x y = 0
      · rw [if_pos h0, ih ys h]; simp [cmp3_eq.1 h0]
      · rw [if_neg h0]; constructor
        · intro h1; exact absurd h1 h0
        · intro h1; exact absurd (cmp3_eq.2 h1.1) h0

theorem cmpL_trans : ∀ xs ys zs, xs.length = ys.length → ys.length = zs.length → cmpL xs ys ≤ 0 → cmpL ys zs ≤ 0 → cmpL xs zs ≤ 0 ∧ (cmpL xs zs < 0 ∨ cmpL xs ys = 0 ∧ cmpL ys zs = 0) := by
  intro xs
  induction xs with
  | nil => intro ys zs h1 h2 _ _; cases ys with
    | nil => cases zs with
      | nil => simp [cmpL]
      | cons z zs => simp at h2
    | cons y ys => simp at h1
  | cons x xs ih =>
    intro ys zs h1 h2
    cases ys with
    | nil => simp at h1
    | cons y ys =>
      cases zs with
      | nil => simp at h2
      | cons z zs =>
        simp only [List.length_cons, Nat.add_right_cancel_iff] at h1 h2
        have := ih ys zs h1 h2
        simp only [cmpL]
        unfold cmp3
        intro h3 h4
        by_cases a1 : x < y
        · by_cases a2 : y < z
          · have : x < z := by omega
            simp [this]
          · by_cases a3 : z < y
            · exfalso; simp [a2, a3] at h4
            · have : x < z := by omega
              simp [this]
        · by_cases a4 : y < x
          · exfalso; simp [a1, a4] at h3
          · obtain rfl : x = y := by omega
            simp only [Int.lt_irrefl, if_false, if_true] at h3 ⊢
            by_cases a2 : x < z
            · simp [a2]
            · by_cases a3 : z < x
              · exfalso; simp [a2, a3] at h4
              · obtain rfl : x = z := by omega
                simp only [Int.lt_irrefl, if_false, if_true] at h4 ⊢
                exact this h3 h4

end Go.Abs
