/- Growing slices as lists; equality of slices; folds over numbers. -/
import Derived.Test.YtkamfflnfnjbeaaAbsSet
set_option linter.unusedSimpArgs false
set_option linter.unusedVariables false
namespace Go.Abs
open Go

variable {α σ ρ : Type}

theorem roomB_eq : roomB = 140737488355328 := (fun x => x) rfl
/-- A row of a slice that grows. -/
def rowG (k : Nat) (enc : α → T) (l : List α) : AObj := .row k ((l.map enc).map .t) 0
theorem rowG_is {k : Nat} {enc : α → T} {l : List α} : rowIs k l.length (some (rowG k enc l)) := ⟨rfl, by simp, by simp⟩
theorem rowG_es {k : Nat} {enc : α → T} {l : List α} : rowEs (some (rowG k enc l)) = (l.map enc).map .t := (fun x => x) rfl
theorem rowG_mr {k : Nat} {enc : α → T} {l : List α} : rowMr (some (rowG k enc l)) = 0 := (fun x => x) rfl
theorem rowG_push {k : Nat} {enc : α → T} {l : List α} {x : α} : AObj.row k ((l.map enc).map .t ++ [.t (enc x)]) 0 = rowG k enc (l ++ [x]) := by simp [rowG]
theorem rowG_nil {k : Nat} (enc : α → T) : AObj.row k [] 0 = rowG k enc [] := (fun x => x) rfl
theorem rowG_eq {k : Nat} {enc : α → T} {l : List α} : rowG k enc l = .row k ((l.map enc).map .t) 0 := (fun x => x) rfl
theorem ap_room {n k : Nat} (h : n ≤ 1000000) (hk : k ≤ 1000) : n * k ≤ roomB := by
  rw [roomB_eq]
  exact Nat.le_trans (Nat.mul_le_mul h hk) (by omega)

theorem foldC_eq [DecidableEq α] (a : List α) : ∀ (r : List α) (i : Nat) (b : List α), (∀ k, a[i + k]? = b[k]?) → r.length = b.length →
    foldC (fun i x (_ : Unit) => if a[i]? = some x then Ctl.go () else Ctl.out false) (fun _ => true) i r () = decide (r = b) := by
  intro r
  induction r with
  | nil => intro i b _ hl; cases b with
    | nil => rfl
    | cons y b => simp at hl
  | cons x r ih =>
    intro i b hk hl
    cases b with
    | nil => simp at hl
    | cons y b =>
      have h0 := hk 0
      simp only [Nat.add_zero, List.getElem?_cons_zero] at h0
      by_cases hxy : x = y
      · rw [foldC_go (s' := ()) (by simp [h0, hxy]), ih (i + 1) b (fun k => by have := hk (k + 1); simp only [List.getElem?_cons_succ] at this; rw [← this]; congr 1; omega) (by simpa using hl)]
        simp [hxy]
      · rw [foldC_out (r := false) (by simp [h0]; exact fun h => hxy h.symm)]
        simp [hxy]

/-- A search that leaves at the first number for which p holds. -/
theorem foldC_none {p : Nat → Bool} : ∀ (n i : Nat) (u : Unit), foldC (fun k (_ : Unit) (_ : Unit) => if p k then Ctl.out false else Ctl.go ()) (fun _ => true) i (List.replicate n ()) u = decide (∀ k, k < n → p (i + k) = false) := by
  intro n
  induction n with
  | zero => intro i u; simp [foldC]
  | succ n ih =>
    intro i u
    rw [List.replicate_succ]
    cases h : p i with
    | true => rw [foldC_out (r := false) (by simp [h])]; symm; refine decide_eq_false fun hh => ?_; have := hh 0 (by omega); simp [h] at this
    | false =>
      rw [foldC_go (s' := ()) (by simp [h]), ih]
      congr 1
      rw [eq_iff_iff]
      constructor
      · intro hh k hk
        cases k with
        | zero => exact h
        | succ k => have := hh k (by omega); rw [← this]; congr 1; omega
      · intro hh k hk
        have := hh (k + 1) (by omega); rw [← this]; congr 1; omega

/-- Numbers counted down, with what is gathered. -/
theorem foldC_down {f : Nat → σ → σ} {g : Nat → σ → σ} (hg0 : ∀ s, g 0 s = s) (hg : ∀ k s, g (k + 1) s = g k (f k s)) (L : Nat) : ∀ (n i : Nat) (s : σ), i + n = L → foldC (ρ := σ) (fun k (_ : Unit) s => Ctl.go (f (L - 1 - k) s)) id i (List.replicate n ()) s = g n s := by
  intro n
  induction n with
  | zero => intro i s _; rw [hg0]; rfl
  | succ n ih =>
    intro i s h
    rw [List.replicate_succ, foldC_go (s' := f (L - 1 - i) s) rfl, ih (i + 1) _ (by omega), hg]
    congr 2
    omega

end Go.Abs
