/- Part 13 of the proof of PathBest. -/
import Derived.Test.YtnjaokhdeaeegaaB12
set_option linter.all false
set_option maxRecDepth 100000
set_option maxHeartbeats 4000000
namespace Go.Abs
open Go
def cmp3 (a b:Int):Int:=if a < b then -1 else if b < a then 1 else 0
def cmpL:List Int→List Int→Int
 | x::xs,y::ys=>if cmp3 x y=0 then cmpL xs ys else cmp3 x y
 | _,_=>0
end Go.Abs
