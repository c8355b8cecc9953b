/- Part 14 of the proof of TreeSteps. -/
import Derived.Test.YtbibdnlbpjnieaaGreatS13
set_option linter.all false
set_option maxRecDepth 100000
set_option maxHeartbeats 4000000
namespace Go.Abs
open Go
def fillL {α:Type} (f:Nat→α) (z:α) (n i:Nat):List α:=(List.range i).map f++List.replicate (n - i) z
theorem q17 {α:Type} (f:Nat→α) (z:α) (n:Nat):fillL f z n 0=List.replicate n z:=by simp [fillL]
theorem q18 {α:Type} (f:Nat→α) (z:α) (n:Nat):fillL f z n n=(List.range n).map f:=by simp [fillL]
theorem q0X {α:Type} (f:Nat→α) (z:α) {n i:Nat} (h:i≤n):(fillL f z n i).length=n:=by simp [fillL]; omega
theorem q0Q {α:Type} {f:Nat→α} {z x:α} {n i:Nat} (h:i < n) (hx:x=f i):(fillL f z n i).set i x=fillL f z n (i+1):=by
 subst hx
 obtain ⟨m,hm⟩:∃ m,n - i=m+1:=⟨n - i - 1,by omega⟩
 have h2:n - (i+1)=m:=by omega
 rw [fillL,fillL,hm,h2,List.replicate_succ,List.set_append]
 simp [List.range_succ]
theorem qfs {α:Type} {enc:α→T} {k n mr:Nat} (z:α):AObj.row k (List.replicate n (.t (enc z))) mr=.row k (((List.replicate n z).map enc).map .t) mr:=by simp
theorem map_set {α:Type} {enc:α→T} {l:List α} {i:Nat} {x:α}:((l.map enc).map AV.t).set i (.t (enc x))=((l.set i x).map enc).map AV.t:=by simp [List.map_set]
theorem q0c {α:Type} {enc:α→T} {l:List α} {i:Nat} {x:α} (h:l[i]? = some x):((l.map enc).map AV.t)[i]? = some (.t (enc x)):=by simp [h]
theorem q5O {h:Heap} {p:Nat→Bool} {cs cs':List AV} (ha:avoidAll p cs=false) (h1:mapO (frzCell h p) cs=some cs'):frz h p (.agg cs)=some (mkAgg cs'):=by
 simp only [frz,ha,h1,Bool.false_eq_true,if_false]
theorem q5P {h:Heap} {p:Nat→Bool} {x:T}:frzCell h p (.t x)=some (.t x):=by simp [frzCell,avoid]
theorem q5Q {h:Heap} {p:Nat→Bool} {o e i n k:Nat} {c:Bool}:frzCell h p (.ms o e i n k c)=frz h p (.ms o e i n k c):=(fun x=>x) rfl
theorem q5R {h:Heap} {p:Nat→Bool} {d:Nat}:∀ (xs:List T),mapO (snap h p (d+1)) (xs.map .t)=some xs:=by
 intro xs
 induction xs with
 | nil=>rfl
 | cons x xs ih=>simp only [List.map_cons,mapO,ih,snap]
theorem q1O {α:Type} {enc:α→T} {h:Heap} {p:Nat→Bool} {o k mr n:Nat} {c:Bool} {l:List α} (hp:p o=true) (hr:h[o]? = some (.row k ((l.map enc).map .t) mr)) (hm:mr≤n) (hn:n=l.length) :
  frz h p (.ms o n 0 n k c)=some (.t (.sl c k (l.map enc))):=by
 subst hn
 have he:elemsOf h k (.ms o l.length 0 l.length k c)=some ((l.map enc).map .t):=by
  rw [q2h (by rw [hr]; exact ⟨rfl,by simp,hm⟩),hr]; rfl
 simp only [frz,frzCell,avoid,hp,Bool.not_true,Bool.false_eq_true,if_false,if_true,snap,he,q5R]
theorem q3n {cs r:List AV}:allT (.agg cs::r)=none:=(fun x=>x) rfl
theorem q1p {X:Heap} {x:AObj}:(X++[x])[X.length]? = some x:=by simp
theorem q1q {X:Heap} {x y:AObj}:List.set (X++[x]) X.length y=X++[y]:=by simp [List.set_append]
end Go.Abs
