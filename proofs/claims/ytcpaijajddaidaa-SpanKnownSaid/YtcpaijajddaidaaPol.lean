/- The policy of the evaluator for this program, and that the program keeps to what the evaluator asks. -/
import Derived.Test.YtcpaijajddaidaaAbsP3
import Derived.Test.YtcpaijajddaidaaRows
set_option linter.unusedSimpArgs false
namespace Go.Proofs.Ytcpaijajddaidaa
open Go Go.Abs
set_option linter.unusedVariables false

def polMut : Nat → List Nat := fun f => match f with | 12 => [1] | 30 => [1] | 54 => [3] | _ => []
def polGrow : Nat → List Nat := fun f => match f with | 54 => [7] | _ => []
def polInl (g : Nat) : Bool := g == 51 || g == 52 || g == 53
def polSite (f t : Nat) : Bool := false && f == t
def polFrz : List (Nat × Nat) := [(15, 21)]
def polLive : Nat → Nat → Option (List Nat) := fun f b => match f, b with
  | 4, 0 => some [3, 4, 5, 8, 10, 105, 106]
  | 7, 0 => some [2, 7, 8, 9, 13, 53, 54, 55]
  | 8, 0 => some [2, 5, 7, 11, 12, 69, 70, 71]
  | 9, 0 => some [5, 29]
  | 9, 2 => some [5, 41, 42, 43]
  | 9, 4 => some [11, 12, 56, 57, 58]
  | 13, 0 => some [1, 3, 4]
  | 14, 0 => some [1, 34, 35, 36]
  | 21, 0 => some [1, 3, 4]
  | 30, 0 => some [1, 2, 3]
  | 34, 0 => some [4, 6, 7, 23, 24, 25]
  | 37, 0 => some [5, 6, 7, 16]
  | 38, 0 => some [0, 1, 12, 13]
  | 39, 0 => some [0, 1, 12, 13]
  | 43, 0 => some [2, 3, 5]
  | 43, 2 => some [2, 3, 6]
  | 43, 4 => some [2, 3, 7]
  | 44, 0 => some [1, 5, 6]
  | 45, 0 => some [1, 5, 13, 14]
  | 47, 0 => some [1, 5, 13, 14]
  | 53, 0 => some [0, 4, 5, 6]
  | 67, 0 => some [0, 1, 8, 9, 10]
  | _, _ => none
def polCrit : Nat → Nat → List (Nat × Nat) := fun f r => match f, r with
  | 3, 9 => [(1, 9), (3, 9), (5, 9), (1, 11), (3, 11), (5, 11), (7, 11), (8, 11)]
  | 4, 15 => [(14, 17), (24, 27)]
  | 5, 5 => [(0, 1), (0, 2), (0, 3), (0, 8), (1, 8), (2, 8), (3, 8), (4, 8)]
  | 5, 6 => [(0, 1), (0, 2), (0, 3), (0, 8), (1, 8), (2, 8), (3, 8), (4, 8)]
  | 5, 12 => [(0, 1), (0, 2), (0, 3), (0, 8), (1, 8), (2, 8), (3, 8), (4, 8)]
  | 5, 16 => [(7, 8), (56, 57)]
  | 6, 9 => [(0, 3)]
  | 6, 13 => [(0, 4)]
  | 6, 17 => [(0, 5)]
  | 10, 11 => [(1, 10), (4, 10), (6, 10), (9, 10), (1, 11), (4, 11), (6, 11), (9, 11), (6, 12), (9, 12)]
  | 11, 2 => [(0, 1), (0, 2), (0, 3)]
  | 11, 5 => [(0, 1), (0, 2), (0, 3)]
  | 11, 11 => [(2, 3)]
  | 12, 1 => [(11, 22), (18, 22), (18, 24)]
  | 15, 1 => [(0, 5), (0, 7), (4, 7)]
  | 18, 4 => [(5, 9), (8, 9), (8, 10)]
  | 22, 1 => [(1, 10), (3, 10), (5, 10), (8, 10)]
  | 23, 3 => [(10, 12), (10, 17)]
  | 37, 3 => [(1, 2), (0, 4), (1, 4), (2, 4), (3, 4), (0, 5), (1, 5), (2, 5), (3, 5)]
  | 41, 2 => [(1, 5), (5, 7), (1, 9), (5, 11), (9, 11), (1, 13)]
  | 46, 4 => [(6, 9)]
  | 48, 3 => [(2, 5)]
  | _, _ => []
def pol : Pol := { isMut := fun f t => (polMut f).contains t, grow := fun f t => (polGrow f).contains t, inl := fun f g d => polInl f || polSite g d, frz := fun g d => polFrz.contains (g, d), live := polLive, crit := polCrit, glob := fun _ => none }

def progOkB (P : Program) (pol : Pol) : Bool := (List.range P.funcs.size).all fun f => match P.funcs[f]? with
  | some fn => match fn.body with
    | some c => codeOk pol regionOk f c && fn.name != "runtime.NumGoroutine"
    | none => true
  | none => true

theorem progOk_of {P : Program} {pol : Pol} (h : progOkB P pol = true) : ProgOk P pol regionOk := by
  refine ⟨fun f fn c hf hc => ?_⟩
  have hlt : f < P.funcs.size := (Array.getElem?_eq_some_iff.1 hf).1
  have := List.all_eq_true.1 h f (by simp [hlt])
  simp only [hf, hc, Bool.and_eq_true, bne_iff_ne] at this
  exact this

theorem pol_inl (g f t : Nat) (h1 : polInl g = false) (h2 : polSite f t = false) : pol.inl g f t = false := by show (polInl g || polSite f t) = false; rw [h1, h2]; rfl

theorem sound : Sound Try.prog pol := ⟨by kernel_rfl, progOk_of (by kernel_rfl)⟩
theorem laidOut : laidOutB Try.prog = true := by kernel_rfl
theorem own : ownKnob Try.prog.godebug = none := by kernel_rfl

end Go.Proofs.Ytcpaijajddaidaa
