/- Part 12 of the proof of TreeSteps. -/
import Derived.Test.YtbibdnlbpjnieaaGreatS11
set_option linter.all false
set_option maxRecDepth 100000
set_option maxHeartbeats 4000000
namespace Go.Abs
open Go
def cmp3 (a b:Int):Int:=if a < b then -1 else if b < a then 1 else 0
theorem qfo {a:Int}:cmp3 a a=0:=by simp [cmp3]
theorem qfp {a b:Int}:cmp3 b a = - cmp3 a b:=by
 unfold cmp3
 split <;> split <;> first|omega|(split <;> omega)
def cmpL:List Int→List Int→Int
 | x::xs,y::ys=>if cmp3 x y=0 then cmpL xs ys else cmp3 x y
 | _,_=>0
theorem qfq:∀ xs ys,cmpL ys xs = - cmpL xs ys:=by
 intro xs
 induction xs with
 | nil=>intro ys; cases ys <;> rfl
 | cons x xs ih =>
  intro ys
  cases ys with
  | nil=>rfl
  | cons y ys =>
   simp only [cmpL]
   rw [qfp (a:=x) (b:=y)]
   by_cases h:cmp3 x y=0
   ·simp [h,ih ys]
   ·rw [if_neg (by omega),if_neg h]
end Go.Abs
