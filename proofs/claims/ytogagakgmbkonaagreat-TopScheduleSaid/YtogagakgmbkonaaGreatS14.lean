/- Part 14 of the proof of TopSchedule. -/
import Derived.Test.YtogagakgmbkonaaGreatS13
set_option linter.all false
set_option maxRecDepth 100000
set_option maxHeartbeats 4000000
namespace Go.Abs
open Go
def q2{α:Type}(f:Nat→α)(z:α)(n i:Nat):List α:=(List.range i).map f++List.replicate (n-i) z
theorem Ym{α:Type}(f:Nat→α)(z:α)(n:Nat):q2 f z n 0=List.replicate n z:=by simp[q2]
theorem Yj{α:Type}(f:Nat→α)(z:α)(n:Nat):q2 f z n n=(List.range n).map f:=by simp[q2]
theorem Yk{α:Type}(f:Nat→α)(z:α){n i:Nat}(h:i≤n):(q2 f z n i).length=n:=by simp[q2];omega
theorem Yl{α:Type}{f:Nat→α}{z x:α}{n i:Nat}(h:i<n)(U:x=f i):(q2 f z n i).set i x=q2 f z n (i+1):=by
 subst U
 obtain⟨m,hm⟩:∃ m,n-i=m+1:=⟨n-i-1,by omega⟩
 have ag:n-(i+1)=m:=by omega
 rw[q2,q2,hm,ag,pB,uz]
 simp[y4]
theorem map_set{α:Type}{enc:α→T}{l:List α}{i:Nat}{x:α}:((l.map enc).map ah.t).set i (.t (enc x))=((l.set i x).map enc).map ah.t:=by simp[y9]
theorem Ci{α:Type}{enc:α→T}{l:List α}{i:Nat}{x:α}(h:l[i]? = some x):((l.map enc).map ah.t)[i]? = some (.t (enc x)):=by simp[h]
theorem alm{h:aj}{p:Nat→Bool}{cs cs':List ah}(ae:dw p cs=false)(ad:b5 (jk h p) cs=some cs'):dV h p (.agg cs)=some (kJ cs'):=by
 simp only[dV,ae,ad,fJ,et]
theorem ali{h:aj}{p:Nat→Bool}{x:T}:jk h p (.t x)=some (.t x):=by simp[jk,cL]
theorem alh{h:aj}{p:Nat→Bool}{o e i n k:Nat}{c:Bool}:jk h p (.ms o e i n k c)=dV h p (.ms o e i n k c):=(fun x=>x) rfl
theorem UY{h:aj}{p:Nat→Bool}{d:Nat}:∀(xs:List T),b5 (snap h p (d+1)) (xs.map .t)=some xs:=by
 intro xs
 induction xs with
 | nil=>rfl
 | cons x xs au=>simp only[gz,b5,au,snap]
theorem alq{α:Type}{enc:α→T}{h:aj}{p:Nat→Bool}{o k aG n:Nat}{c:Bool}{l:List α}(av:p o=true)(al:h[o]? = some (.row k ((l.map enc).map .t) aG))(hm:aG≤n)(aw:n=l.length) :
  dV h p (.ms o n 0 n k c)=some (.t (.aP c k (l.map enc))):=by
 subst aw
 have he:gU h k (.ms o l.length 0 l.length k c)=some ((l.map enc).map .t):=by
  rw[GO (by rw[al];exact⟨rfl,by simp,hm⟩),al];rfl
 simp only[dV,jk,cL,av,vx,fJ,et,cQ,snap,he,UY]
theorem agP{cs r:List ah}:e6 (.agg cs::r)=none:=(fun x=>x) rfl
theorem mM{X:aj}{x:a9}:(X++[x])[X.length]? = some x:=by simp
theorem nu{X:aj}{x y:a9}:List.set (X++[x]) X.length y=X++[y]:=by simp[uz]
end Go.Abs
