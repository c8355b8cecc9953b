/- The policy of the evaluator for this program, and that the program keeps to what the evaluator asks. -/
import Derived.Test.YtkamfflnfnjbeaaAbsP3
import Derived.Test.YtkamfflnfnjbeaaRows
set_option linter.unusedSimpArgs false
namespace Go.Proofs.Ytkamfflnfnjbeaa
open Go Go.Abs
set_option linter.unusedVariables false

def polMut : Nat → List Nat := fun f => match f with | 47 => [2] | 55 => [1] | 57 => [1] | 58 => [1] | _ => []
def polGrow : Nat → List Nat := fun f => match f with | 7 => [1] | 21 => [6] | 23 => [3] | 28 => [7] | 32 => [5] | 36 => [3] | 47 => [6] | _ => []
def polInl (g : Nat) : Bool := false && g == g
def polSite (f t : Nat) : Bool := (f == 7 && t == 51)
def polFrz : List (Nat × Nat) := []
def polLive : Nat → Nat → Option (List Nat) := fun f b => match f, b with
  | 4, 0 => some [1, 34, 35]
  | 4, 2 => some [1, 11, 34, 35, 84, 85, 86]
  | 5, 0 => some [1, 5, 6, 26, 27, 28]
  | 5, 2 => some [5, 6, 42, 43, 44]
  | 5, 4 => some [6, 101, 102, 103]
  | 7, 0 => some [1, 32]
  | 8, 0 => some [2, 4, 8, 47, 48]
  | 8, 2 => some [2, 4, 8, 14, 47, 48, 73, 74]
  | 9, 1 => some [10, 55, 56]
  | 10, 0 => some [2, 3, 4, 11, 29, 30]
  | 10, 2 => some [2, 3, 4, 11, 13, 29, 30, 39, 40]
  | 10, 4 => some [2, 3, 4, 11, 13, 15, 29, 30, 39, 40, 51, 52]
  | 11, 0 => some [7, 8, 10, 11, 12, 42, 43, 44]
  | 12, 0 => some [2, 3, 10, 11, 13, 14, 48, 49]
  | 12, 2 => some [2, 3, 10, 11, 13, 14, 48, 49, 56, 57]
  | 12, 4 => some [102, 103, 104]
  | 13, 0 => some [0, 2, 3, 4, 11, 40, 41, 42]
  | 14, 0 => some [1, 2, 3, 4, 6, 7, 9, 10, 13, 16, 67, 68]
  | 18, 0 => some [0, 1, 5]
  | 21, 0 => some [6]
  | 22, 0 => some [0, 1, 12, 13]
  | 23, 0 => some [0, 3, 4, 5]
  | 25, 0 => some [3, 9, 10, 11]
  | 27, 0 => some [0, 3]
  | 28, 0 => some [0, 1, 7, 8, 9, 10]
  | 29, 0 => some [0, 1, 5]
  | 31, 0 => some [1, 2, 3, 4]
  | 32, 0 => some [1, 5, 6]
  | 33, 0 => some [1, 3]
  | 35, 0 => some [0, 1, 12, 13]
  | 36, 0 => some [1, 3, 4]
  | 39, 0 => some [1, 2, 3, 6, 9, 10, 11]
  | 40, 0 => some [0, 1, 12, 13]
  | 45, 0 => some [0, 1, 7, 8, 9]
  | 47, 0 => some [2, 4, 6, 12, 13, 14]
  | 48, 0 => some [0, 1, 12, 13]
  | 49, 0 => some [0, 1, 5]
  | 52, 0 => some [1, 2, 4, 5]
  | 54, 0 => some [0, 2, 6, 7, 8]
  | _, _ => none
def polCrit : Nat → Nat → List (Nat × Nat) := fun f r => match f, r with
  | 24, 12 => [(4, 7)]
  | 34, 8 => [(26, 28)]
  | 47, 8 => [(0, 3), (0, 4)]
  | 54, 3 => [(1, 3)]
  | 58, 1 => [(2, 4), (4, 8), (2, 9)]
  | _, _ => []
def pol : Pol := { isMut := fun f t => (polMut f).contains t, grow := fun f t => (polGrow f).contains t, inl := fun f g d => polInl f || polSite g d, frz := fun g d => polFrz.contains (g, d), live := polLive, crit := polCrit, glob := fun _ => none }

def progOkB (P : Program) (pol : Pol) : Bool := (List.range P.funcs.size).all fun f => match P.funcs[f]? with
  | some fn => match fn.body with
    | some c => codeOk pol regionOk f c && fn.name != "runtime.NumGoroutine"
    | none => true
  | none => true

theorem progOk_of {P : Program} {pol : Pol} (h : progOkB P pol = true) : ProgOk P pol regionOk := by
  refine ⟨fun f fn c hf hc => ?_⟩
  have hlt : f < P.funcs.size := (Array.getElem?_eq_some_iff.1 hf).1
  have := List.all_eq_true.1 h f (by simp [hlt])
  simp only [hf, hc, Bool.and_eq_true, bne_iff_ne] at this
  exact this

theorem pol_inl (g f t : Nat) (h1 : polInl g = false) (h2 : polSite f t = false) : pol.inl g f t = false := by show (polInl g || polSite f t) = false; rw [h1, h2]; rfl

theorem sound : Sound Try.prog pol := ⟨by kernel_rfl, progOk_of (by kernel_rfl)⟩
theorem laidOut : laidOutB Try.prog = true := by kernel_rfl
theorem own : ownKnob Try.prog.godebug = none := by kernel_rfl

end Go.Proofs.Ytkamfflnfnjbeaa
