/- Part 15 of the proof of PathBest. -/
import Derived.Test.YtnjaokhdeaeegaaB14
set_option linter.all false
set_option maxRecDepth 100000
set_option maxHeartbeats 4000000
namespace Go.Abs
open Go
theorem map_set {α:Type} {enc:α→T} {l:List α} {i:Nat} {x:α}:((l.map enc).map AV.t).set i (.t (enc x))=((l.set i x).map enc).map AV.t:=by simp [List.map_set]
theorem q1r {α:Type} {enc:α→T} {l:List α} {i:Nat} {x:α} (h:l[i]? = some x):((l.map enc).map AV.t)[i]? = some (.t (enc x)):=by simp [h]
theorem q6u {h:Heap} {p:Nat→Bool} {d:Nat}:∀ (xs:List T),mapO (snap h p (d+1)) (xs.map .t)=some xs:=by
 intro xs
 induction xs with
 | nil=>rfl
 | cons x xs ih=>simp only [List.map_cons,mapO,ih,snap]
theorem q2H {α:Type} {enc:α→T} {h:Heap} {p:Nat→Bool} {o k mr n:Nat} {c:Bool} {l:List α} (hp:p o=true) (hr:h[o]? = some (.row k ((l.map enc).map .t) mr)) (hm:mr≤n) (hn:n=l.length) :
  frz h p (.ms o n 0 n k c)=some (.t (.sl c k (l.map enc))):=by
 subst hn
 have he:elemsOf h k (.ms o l.length 0 l.length k c)=some ((l.map enc).map .t):=by
  rw [q2E (by rw [hr]; exact ⟨rfl,by simp,hm⟩),hr]; rfl
 simp only [frz,frzCell,avoid,hp,Bool.not_true,Bool.false_eq_true,if_false,if_true,snap,he,q6u]
theorem qgK {cs r:List AV}:allT (.agg cs::r)=none:=(fun x=>x) rfl
end Go.Abs
