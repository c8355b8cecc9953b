/- The policy of the evaluator for this program, and that the program keeps to what the evaluator asks. -/
import Derived.Test.YtboknhdkadcaeaaAbsP3
import Derived.Test.YtboknhdkadcaeaaRows
set_option linter.unusedSimpArgs false
namespace Go.Proofs.Ytboknhdkadcaeaa
open Go Go.Abs
set_option linter.unusedVariables false

def polMut : Nat → List Nat := fun f => match f with | 8 => [4, 5] | _ => []
def polGrow : Nat → List Nat := fun f => match f with | 13 => [4] | 22 => [3] | 23 => [5] | 24 => [10] | 26 => [7] | 31 => [5] | 40 => [6] | _ => []
def polInl (g : Nat) : Bool := g == 38 || false
def polSite (f t : Nat) : Bool := false && f == t
def polFrz : List (Nat × Nat) := [(38, 4)]
def polLive : Nat → Nat → Option (List Nat) := fun f b => match f, b with
  | 3, 0 => some [2, 8, 9, 23, 24]
  | 4, 0 => some [2, 7, 8, 39, 40]
  | 4, 2 => some [2, 7, 8, 11, 39, 40, 44, 45]
  | 5, 0 => some [7, 8, 10, 28, 29]
  | 6, 0 => some [3, 4, 39, 40, 41]
  | 6, 2 => some [3, 4, 6, 7, 8, 9, 39, 40, 41]
  | 6, 4 => some [4, 159, 160, 161]
  | 7, 0 => some [3, 4, 6, 33, 34]
  | 7, 2 => some [3, 4, 6, 7, 8, 10, 11, 33, 34, 47, 48, 49]
  | 7, 4 => some [104, 105, 106]
  | 9, 0 => some [1, 48, 49]
  | 10, 0 => some [55, 56]
  | 13, 0 => some [1, 2, 3, 4, 5]
  | 13, 2 => some [1, 2, 3, 4, 7]
  | 14, 0 => some [1, 3, 4]
  | 14, 2 => some [1, 3, 4, 5]
  | 14, 4 => some [1, 3, 6]
  | 15, 0 => some [1, 3, 23, 24, 25]
  | 15, 2 => some [1, 3, 5, 23, 24, 25, 36, 37, 38]
  | 15, 4 => some [3, 50, 51, 52]
  | 19, 0 => some [5, 6, 7]
  | 20, 0 => some [1, 5, 18, 19]
  | 20, 2 => some [5, 7, 30]
  | 21, 0 => some [0, 1, 5]
  | 22, 0 => some [1, 3, 4]
  | 22, 2 => some [1, 3, 4, 5, 6, 7]
  | 22, 4 => some [1, 3, 4, 8, 9, 10]
  | 23, 0 => some [1, 2, 5, 6]
  | 24, 0 => some [4, 5, 9, 10]
  | 25, 0 => some [0, 1, 12, 13]
  | 26, 0 => some [1, 2, 3, 7, 8]
  | 30, 0 => some [1, 5]
  | 31, 0 => some [1, 2, 5, 6]
  | 31, 2 => some [1, 2, 5, 6, 7, 8]
  | 34, 0 => some [1, 13, 14]
  | 36, 0 => some [5, 6, 7, 15]
  | 37, 0 => some [5, 6, 7]
  | 39, 0 => some [1, 2, 4, 5, 13, 14]
  | 39, 2 => some [7]
  | 40, 0 => some [1, 2, 5, 6, 7]
  | 40, 2 => some [2, 5, 6, 8]
  | 40, 4 => some [2, 5, 6, 8, 9]
  | 43, 0 => some [20, 21, 22]
  | 52, 0 => some [0, 2, 8, 9, 10]
  | 52, 2 => some [0, 2, 4, 5, 8, 9, 10, 15]
  | 54, 0 => some [3, 4]
  | _, _ => none
def polCrit : Nat → Nat → List (Nat × Nat) := fun f r => match f, r with
  | 3, 3 => [(1, 2)]
  | 3, 10 => [(3, 6)]
  | 3, 21 => [(2, 3), (2, 4), (10, 11), (10, 12)]
  | 6, 29 => [(2, 10), (4, 10), (7, 10), (9, 10), (2, 11), (4, 11), (7, 11), (9, 11), (7, 12), (9, 12)]
  | 8, 5 => [(2, 3), (2, 4), (2, 6), (5, 6), (2, 7), (5, 7)]
  | 10, 7 => [(1, 4), (1, 8), (1, 11), (1, 14)]
  | 13, 16 => [(10, 18), (14, 18)]
  | 14, 17 => [(7, 12), (11, 12)]
  | 20, 8 => [(0, 4)]
  | 22, 15 => [(1, 10), (4, 10), (8, 10)]
  | 24, 14 => [(2, 3)]
  | 26, 7 => [(4, 12), (9, 12)]
  | 26, 8 => [(4, 12), (9, 12)]
  | 31, 11 => [(4, 14), (9, 14)]
  | 36, 3 => [(1, 2), (0, 4), (1, 4), (2, 4), (3, 4), (0, 5), (1, 5), (2, 5), (3, 5)]
  | 40, 14 => [(7, 12), (11, 12)]
  | 41, 3 => [(3, 6)]
  | _, _ => []
def pol : Pol := { isMut := fun f t => (polMut f).contains t, grow := fun f t => (polGrow f).contains t, inl := fun f g d => polInl f || polSite g d, frz := fun g d => polFrz.contains (g, d), live := polLive, crit := polCrit, glob := fun _ => none }

def progOkB (P : Program) (pol : Pol) : Bool := (List.range P.funcs.size).all fun f => match P.funcs[f]? with
  | some fn => match fn.body with
    | some c => codeOk pol regionOk f c && fn.name != "runtime.NumGoroutine"
    | none => true
  | none => true

theorem progOk_of {P : Program} {pol : Pol} (h : progOkB P pol = true) : ProgOk P pol regionOk := by
  refine ⟨fun f fn c hf hc => ?_⟩
  have hlt : f < P.funcs.size := (Array.getElem?_eq_some_iff.1 hf).1
  have := List.all_eq_true.1 h f (by simp [hlt])
  simp only [hf, hc, Bool.and_eq_true, bne_iff_ne] at this
  exact this

theorem pol_inl (g f t : Nat) (h1 : polInl g = false) (h2 : polSite f t = false) : pol.inl g f t = false := by show (polInl g || polSite f t) = false; rw [h1, h2]; rfl
theorem pol_inlT (g f t : Nat) (h1 : polInl g = true) : pol.inl g f t = true := by show (polInl g || polSite f t) = true; rw [h1]; rfl
theorem pol_inlS (g f t : Nat) (h1 : polSite f t = true) : pol.inl g f t = true := by show (polInl g || polSite f t) = true; rw [h1]; cases polInl g <;> rfl

theorem sound : Sound Try.prog pol := ⟨by kernel_rfl, progOk_of (by kernel_rfl)⟩
theorem laidOut : laidOutB Try.prog = true := by kernel_rfl
theorem own : ownKnob Try.prog.godebug = none := by kernel_rfl

end Go.Proofs.Ytboknhdkadcaeaa
