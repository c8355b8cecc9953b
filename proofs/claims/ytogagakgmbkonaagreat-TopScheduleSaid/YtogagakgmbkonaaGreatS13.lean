/- Part 13 of the proof of TopSchedule. -/
import Derived.Test.YtogagakgmbkonaaGreatS12
set_option linter.all false
set_option maxRecDepth 100000
set_option maxHeartbeats 4000000
namespace Go.Abs
open Go
variable{α df ρ:Type}
theorem Aq:eQ=140737488355328:=(fun x=>x) rfl
def ev(k:Nat)(enc:α→T)(l:List α):a9:=.row k ((l.map enc).map .t) 0
theorem ph{k:Nat}{enc:α→T}{l:List α}:lY k l.length (some (ev k enc l)):=⟨rfl,by simp,by simp⟩
theorem pg{k:Nat}{enc:α→T}{l:List α}:NG (some (ev k enc l))=(l.map enc).map .t:=(fun x=>x) rfl
theorem pj{k:Nat}{enc:α→T}{l:List α}:VG (some (ev k enc l))=0:=(fun x=>x) rfl
theorem yx{k:Nat}{enc:α→T}{l:List α}{x:α}:a9.row k ((l.map enc).map .t++[.t (enc x)]) 0=ev k enc (l++[x]):=by simp[ev]
theorem aei{k:Nat}{enc:α→T}{l:List α}:ev k enc l=.row k ((l.map enc).map .t) 0:=(fun x=>x) rfl
theorem l9{n k:Nat}(h:n≤1000000)(an:k≤1000):n*k≤eQ:=by
 rw[Aq]
 exact kP (O8 h an) (by omega)
end Go.Abs
