/- The policy of the evaluator for this program, and that the program keeps to what the evaluator asks. -/
import Derived.Test.YtklhidaojokoaaaAbsP3
import Derived.Test.YtklhidaojokoaaaRows
set_option linter.unusedSimpArgs false
namespace Go.Proofs.Ytklhidaojokoaaa
open Go Go.Abs
set_option linter.unusedVariables false

def polMut : Nat → List Nat := fun f => match f with | 7 => [5, 6, 8] | _ => []
def polGrow : Nat → List Nat := fun f => match f with  | _ => []
def polInl (g : Nat) : Bool := g == 35 || g == 37 || g == 41 || g == 42
def polSite (f t : Nat) : Bool := false && f == t
def polFrz : List (Nat × Nat) := []
def polLive : Nat → Nat → Option (List Nat) := fun f b => match f, b with
  | 9, 0 => some [3, 4, 5, 31, 32, 33]
  | 17, 0 => some [5, 6, 7, 16]
  | 21, 0 => some [0, 1, 12, 13]
  | 22, 0 => some [4, 5, 6]
  | 24, 0 => some [0, 2, 4, 5]
  | 27, 0 => some [0, 4, 11, 12, 13]
  | 28, 0 => some [0, 3, 4]
  | 35, 0 => some [0, 7, 8, 9]
  | 36, 0 => some [3, 6, 7, 8]
  | 37, 0 => some [0, 2, 3, 4, 5, 17]
  | _, _ => none
def polCrit : Nat → Nat → List (Nat × Nat) := fun f r => match f, r with
  | 3, 4 => [(1, 2)]
  | 6, 3 => [(2, 3), (2, 4), (2, 6), (5, 6), (2, 7), (5, 7)]
  | 7, 3 => [(1, 2)]
  | 7, 11 => [(2, 3), (2, 4)]
  | 17, 3 => [(1, 2), (0, 4), (1, 4), (2, 4), (3, 4), (0, 5), (1, 5), (2, 5), (3, 5)]
  | 25, 3 => [(3, 4), (3, 6), (3, 10), (7, 10), (3, 12), (7, 12), (11, 12), (3, 14), (7, 14), (11, 14)]
  | 39, 1 => [(3, 4), (3, 6)]
  | _, _ => []
def pol : Pol := { isMut := fun f t => (polMut f).contains t, grow := fun f t => (polGrow f).contains t, inl := fun f g d => polInl f || polSite g d, frz := fun g d => polFrz.contains (g, d), live := polLive, crit := polCrit, glob := fun _ => none }

def progOkB (P : Program) (pol : Pol) : Bool := (List.range P.funcs.size).all fun f => match P.funcs[f]? with
  | some fn => match fn.body with
    | some c => codeOk pol regionOk f c && fn.name != "runtime.NumGoroutine"
    | none => true
  | none => true

theorem progOk_of {P : Program} {pol : Pol} (h : progOkB P pol = true) : ProgOk P pol regionOk := by
  refine ⟨fun f fn c hf hc => ?_⟩
  have hlt : f < P.funcs.size := (Array.getElem?_eq_some_iff.1 hf).1
  have := List.all_eq_true.1 h f (by simp [hlt])
  simp only [hf, hc, Bool.and_eq_true, bne_iff_ne] at this
  exact this

theorem pol_inl (g f t : Nat) (h1 : polInl g = false) (h2 : polSite f t = false) : pol.inl g f t = false := by show (polInl g || polSite f t) = false; rw [h1, h2]; rfl

theorem sound : Sound Try.prog pol := ⟨by kernel_rfl, progOk_of (by kernel_rfl)⟩
theorem laidOut : laidOutB Try.prog = true := by kernel_rfl
theorem own : ownKnob Try.prog.godebug = none := by kernel_rfl

end Go.Proofs.Ytklhidaojokoaaa
