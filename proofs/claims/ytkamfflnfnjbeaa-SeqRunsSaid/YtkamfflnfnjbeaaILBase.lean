/- Parts of the program's code by their places. -/
import Derived.Test.YtkamfflnfnjbeaaPol
import Derived.Test.YtkamfflnfnjbeaaAbsSet
set_option linter.unusedSimpArgs false
set_option linter.unusedVariables false
namespace Go.Abs
open Go

/-- The region of a number. -/
def regOf (r : Nat) : Code → Option (Array Oper)
  | .region id ops _ => if id = r then some ops else none
  | .seq a b => (regOf r a).or (regOf r b)
  | .cond _ a b => (regOf r a).or (regOf r b)
  | .block _ c => regOf r c
  | .loop c => regOf r c
  | .scope c => regOf r c
  | .rangeFunc _ _ a b => (regOf r a).or (regOf r b)
  | _ => none

def opOf (P : Program) (f r i : Nat) : Oper :=
  match P.funcs[f]? with
  | some fn => match fn.body with
    | some c => match regOf r c with
      | some ops => (ops[i]?).getD default
      | none => default
    | none => default
  | none => default

/-- The loops over functions, in the order of the text. -/
def rfsOf : Code → List (Code × Code)
  | .rangeFunc _ _ a b => [(a, b)]
  | .seq a b => rfsOf a ++ rfsOf b
  | .cond _ a b => rfsOf a ++ rfsOf b
  | .block _ c => rfsOf c
  | .loop c => rfsOf c
  | .scope c => rfsOf c
  | _ => []

def rfOf (P : Program) (f k : Nat) : Code × Code :=
  match P.funcs[f]? with
  | some fn => match fn.body with
    | some c => ((rfsOf c)[k]?).getD (.skip, .skip)
    | none => (.skip, .skip)
  | none => (.skip, .skip)

end Go.Abs

namespace Go.Proofs.Ytkamfflnfnjbeaa
open Go Go.Abs
attribute [go_sem] pol_inl polInl polSite pol_inlT pol_inlS pol_prim pol_primT polPrim
end Go.Proofs.Ytkamfflnfnjbeaa
