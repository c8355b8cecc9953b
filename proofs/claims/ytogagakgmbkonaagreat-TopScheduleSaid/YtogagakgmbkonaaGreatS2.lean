/- Part 2 of the proof of TopSchedule. -/
import Derived.Test.YtogagakgmbkonaaGreatS1
import Derived.RangeFuncNested
import Derived.TacticsIn
import Derived.LoopNIn
import Derived.Scope
set_option linter.all false
set_option maxRecDepth 100000
set_option maxHeartbeats 4000000
/- Objects read as trees. -/
namespace Go.Abs
open Go
variable{P:Program}{Z:hG}{D D2:c8}{β β2:dt}{w:World}{h ai:aj}{p:Nat→Bool}
theorem sE{α AG:Type}{g:α→Option AG}{l:List α}{r:List AG}(h:b5 g l=some r):l.length=r.length∧∀(i:Nat) a b,l[i]? = some a→r[i]? = some b→g a=some b:=by
 induction l generalizing r with
 | nil=>simp[b5]at h;subst h;exact⟨rfl,by simp⟩
 | cons x l au =>
  simp only[b5]at h
  split at h
  ·rename_i b gB ab amP
   simp at h;subst h
   obtain⟨ad,ag⟩:=au amP
   refine⟨by simp[ad],fun i a c ae af=>?_⟩
   cases i with
   | zero=>simp at ae af;subst ae;subst af;exact ab
   | succ i=>exact ag i a c (by simpa using ae) (by simpa using af)
  ·simp at h
theorem Jy(d:Nat)(x:T):snap h p d (.t x)=some x:=by cases d<;>rfl
theorem VU{d:Nat}{x:ah}{t:T}(J:snap h p d x=some t):x.cells.length=t.cells.length∧∀(j:Nat) c jh,x.cells[j]? = some c→t.cells[j]? = some jh→∃ hv,hv≤d∧snap h p hv c=some jh:=by
 have single:x.cells=[x]→t.cells=[t]→x.cells.length=t.cells.length∧∀(j:Nat) c jh,x.cells[j]? = some c→t.cells[j]? = some jh→∃ hv,hv≤d∧snap h p hv c=some jh:=by
  intro aT aW
  rw[aT,aW]
  refine⟨rfl,fun j c jh af Ej=>?_⟩
  cases j with
  | zero=>simp at af Ej;subst af;subst Ej;exact⟨d,bP _,J⟩
  | succ j=>simp at af
 cases x with
 | t y =>
  rw[Jy]at J
  cases J
  rw[yG]
  refine⟨by simp,fun j c jh af Ej=>?_⟩
  rw[eE,Ej]at af
  simp at af
  subst af
  exact⟨0,uv _,Jy 0 jh⟩
 | agg cs =>
  cases d with
  | zero=>simp[snap]at J
  | succ d =>
   simp only[snap]at J
   split at J
   ·rename_i aq dI
    simp at J;subst J
    obtain⟨ad,ag⟩:=sE dI
    exact⟨ad,fun j c jh af Ej=>⟨d,by omega,ag j c jh af Ej⟩⟩
   ·simp at J
 | ch cs =>
  cases d with
  | zero=>simp[snap]at J
  | succ d =>
   simp only[snap]at J
   split at J
   ·simp at J;subst J;exact single rfl rfl
   ·simp at J
 | fn g a b =>
  cases d with
  | zero=>simp[snap]at J
  | succ d =>
   simp only[snap]at J
   split at J
   ·simp at J;subst J;exact single rfl rfl
   ·simp at J
 | ref o e i off =>
  cases d with
  | zero=>simp[snap]at J
  | succ d =>
   simp only[snap]at J
   split at J
   ·split at J
    ·split at J
     ·simp at J;subst J;exact single rfl rfl
     ·simp at J
    ·simp at J
   ·simp at J
 | ms o e i len k clip =>
  cases d with
  | zero=>simp[snap]at J
  | succ d =>
   simp only[snap]at J
   split at J
   ·split at J
    ·split at J
     ·simp at J;subst J;exact single rfl rfl
     ·simp at J
    ·simp at J
   ·simp at J
 | mp o=>cases d<;>simp[snap]at J
 | bF o=>cases d<;>simp[snap]at J
 | dead=>cases d<;>simp[snap]at J
theorem CM[cf](b4:∀(o:Nat) x,p o=true→h[o]? = some x→e5 D β w o x)(cR:∀ b,D b→D2 b)(qs:∀ o e b k,p o=true→β o e=some (b,k)→D2 b) :
  ∀(d:Nat) (x:ah) (v:Value) (t:T),snap h p d x=some t→bf D β w v x→eO D2 w v t:=by
 intro d
 induction d using Nat.strongRecOn with
 | _ d au =>
  intro x v t J al
  cases x with
  | t y =>
   rw[Jy]at J
   cases J
   exact al.dN.mono cR (fun _ _=>rfl)
  | agg cs =>
   cases d with
   | zero=>simp[snap]at J
   | succ d =>
    simp only[snap]at J
    split at J
    ·rename_i aq dI
     simp at J;subst J
     obtain⟨ad,ag⟩:=sE dI
     cases al with
     | agg a _ ao uR =>
      refine .agg a aq (by omega) fun i v t az ax=>?_
      have hi:i<cs.length:=by rw[ad];exact(cD.1 ax).1
      have af:cs[i]? = some cs[i]:=by simp[hi]
      exact au d (by omega) _ v t (ag i _ t af ax) (uR i v _ az af)
    ·simp at J
  | ch cs =>
   cases d with
   | zero=>simp[snap]at J
   | succ d =>
    simp only[snap]at J
    split at J
    ·rename_i aq dI
     simp at J;subst J
     obtain⟨ad,ag⟩:=sE dI
     cases al with
     | ch a _ ao uR =>
      refine .ch a aq (by omega) fun i v t az ax=>?_
      have hi:i<cs.length:=by rw[ad];exact(cD.1 ax).1
      have af:cs[i]? = some cs[i]:=by simp[hi]
      exact au d (by omega) _ v t (ag i _ t af ax) (uR i v _ az af)
    ·simp at J
  | fn g dW fo =>
   cases d with
   | zero=>simp[snap]at J
   | succ d =>
    simp only[snap]at J
    split at J
    ·rename_i oa tb HG zQ
     simp at J;subst J
     obtain⟨ad,ag⟩:=sE HG
     obtain⟨aJ,bL⟩:=sE zQ
     cases al with
     | fn _ a b _ _ ae ab a3 a7 =>
      refine .fn g a b oa tb (by omega) (by omega) (fun i v t az ax=>?_) (fun i v t az ax=>?_)
      ·have hi:i<dW.length:=by rw[ad];exact(cD.1 ax).1
       have af:dW[i]? = some dW[i]:=by simp[hi]
       exact au d (by omega) _ v t (ag i _ t af ax) (a3 i v _ az af)
      ·have hi:i<fo.length:=by rw[aJ];exact(cD.1 ax).1
       have af:fo[i]? = some fo[i]:=by simp[hi]
       exact au d (by omega) _ v t (bL i _ t af ax) (a7 i v _ az af)
    ·simp at J
  | ref o e i off =>
   cases d with
   | zero=>simp[snap]at J
   | succ d =>
    simp only[snap]at J
    split at J
    ·rename_i av
     split at J
     ·rename_i y ar
      split at J
      ·rename_i aq dI
       simp at J;subst J
       obtain⟨ad,ag⟩:=sE dI
       obtain⟨k,elems,aG,aC,hm,hi,he,jl⟩:=aeh ar
       cases al with
       | ref _ _ _ _ b bg ab =>
        obtain⟨rfl,c,lk⟩:=ui.cell (b4 o _ av aC) ab hm hi jl
        refine .ip b (i*bg+off) _ (qs o e b bg av ab) (fun j=>c (off+j)) (fun j aU=>?_) (fun j t ax=>?_)
        ·have aB:off+j<y.cells.length:=by simp at aU;omega
         have:=lk (off+j) y.cells[off+j] (by simp[aB])
         rw[uq]
         exact⟨this.1,this.2.1⟩
        ·rw[nF]at ax
         have aB:off+j<y.cells.length:=by rw[ad];exact(cD.1 ax).1
         have af:y.cells[off+j]? = some y.cells[off+j]:=by simp[aB]
         exact au d (by omega) _ _ t (ag _ _ t af ax) (lk _ _ af).2.2
      ·simp at J
     ·simp at J
    ·simp at J
  | ms o e i len k clip =>
   cases d with
   | zero=>simp[snap]at J
   | succ d =>
    simp only[snap]at J
    split at J
    ·rename_i av
     split at J
     ·rename_i es iB
      split at J
      ·rename_i aq dI
       simp at J;subst J
       obtain⟨ad,ag⟩:=sE dI
       obtain⟨aO,elems,aG,aC,_,hm,jl,qj,rfl⟩:=aj0 iB
       have hlen:((elems.drop i).take len).length=len:=by simp;omega
       have Ek:aq.length=len:=by omega
       rcases I5 al with⟨ao,_,a,az⟩|⟨b,cap,n,mP,hle,Li,gu,aw,dn,hex,az⟩
       ·subst az
        have:aq=[]:=F1 (by omega)
        subst this
        exact .rF a 0 clip k (fun _=>rfl)
       ·subst az
        have mm:=b4 o _ av aC
        obtain⟨DR,hR,_,ov⟩:=mm.2 e b k mP
        subst hR
        obtain⟨c,ty,a3,a7,cz⟩:=ov hm
        have bx:∀ j,j<len→((elems.drop i).take len)[j]? = elems[i+j]?:=by
         intro j aU
         rw[l4,a6 aU,nF]
        have Zn:∀ j,j<len→∃ y,elems[i+j]? = some y∧((elems.drop i).take len)[j]? = some y:=by
         intro j aU
         have aB:i+j<elems.length:=by omega
         exact⟨elems[i+j],by simp[aB],by rw[bx j aU];simp[aB]⟩
        have Lu:∀(j:Nat) x,aq[j]? = some x→x.cells.length=k:=by
         intro j x U
         have aU:j<len:=by have:=(cD.1 U).1;omega
         obtain⟨y,LQ,HO⟩:=Zn j aU
         have:=(VU (ag j y x HO U)).1
         rw[← this];exact mm.1 _ y LQ
        have lk:∀(j:Nat) x (q:Nat) t,aq[j]? = some x→x.cells[q]? = some t→∃ v,c[(i+j)*k+q]? = some v∧mv v=true∧eO D2 w v t:=by
         intro j x q t U ax
         have aU:j<len:=by have:=(cD.1 U).1;omega
         obtain⟨y,LQ,HO⟩:=Zn j aU
         obtain⟨cg,c5⟩:=VU (ag j y x HO U)
         have aE:q<y.cells.length:=by rw[cg];exact(cD.1 ax).1
         have af:y.cells[q]? = some y.cells[q]:=by simp[aE]
         obtain⟨hv,vR,ox⟩:=c5 q _ t af ax
         obtain⟨v,cP,dc,fi⟩:=cz (i+j) y q _ (by omega) LQ af
         exact⟨v,cP,dc,au hv (by omega) _ v t ox fi⟩
        refine .aP b (i*k) len cap clip k aq (qs o e b k av mP) (by omega) Li gu Lu (fun j=>(c[i*k+j]?).getD default) (fun j aU=>?_) (fun j x q t U ax=>?_)
        ·by_cases o1:k=0
         ·subst o1;simp at aU
         ·have hdiv:j / k<len:=(F3 (by omega)).2 aU
          have uP:j % k<k:=mF _ (by omega)
          have rm:aq[j / k]? = some aq[j / k]:=by rw[fC (by omega)]
          have dx:=Lu _ _ rm
          obtain⟨v,cP,dc,_⟩:=lk _ _ (j % k) _ rm (fC (by rw[dx];exact uP))
          have qk:(i+j / k)*k+j % k=i*k+j:=by
           have:=F8 j k
           rw[s3]at this
           rw[lE];omega
          rw[qk]at cP
          simp only[cP,na]
          exact⟨by simp[World.cell?,a3,cP],dc⟩
        ·obtain⟨v,cP,dc,fi⟩:=lk j x q t U ax
         have qk:i*k+(j*k+q)=(i+j)*k+q:=by rw[lE];omega
         rw[qk]
         simp only[cP,na]
         exact fi
      ·simp at J
     ·simp at J
    ·simp at J
  | mp o=>cases d<;>simp[snap]at J
  | bF o=>cases d<;>simp[snap]at J
  | dead=>cases d<;>simp[snap]at J
theorem A4{l:List ah}(ae:dw p l=true){i:Nat}{x:ah}(U:l[i]? = some x):cL p x=true:=by
 induction l generalizing i with
 | nil=>simp at U
 | cons c r au =>
  simp[dw]at ae
  cases i with
  | zero=>simp at U;subst U;exact ae.1
  | succ i=>exact au ae.2 (by simpa using U)
theorem A5(cR:∀ b,D b→D2 b)(qs:∀ o e y,p o=false→β o e=some y→β2 o e=some y){v:Value}{x:ah}(al:bf D β w v x)(ae:cL p x=true):bf D2 β2 w v x:=by
 induction al with
 | t v x U=>exact .t v x (U.mono cR (fun _ _=>rfl))
 | agg cs aq ao _ au=>simp[cL]at ae;exact .agg cs aq ao (fun i v t az ax=>au i v t az ax (A4 ae ax))
 | ch cs aq ao _ au=>simp[cL]at ae;exact .ch cs aq ao (fun i v t az ax=>au i v t az ax (A4 ae ax))
 | fn f a b x y ad ag _ _ tF qu =>
  simp[cL]at ae
  exact .fn f a b x y ad ag (fun i v t az ax=>tF i v t az ax (A4 ae.1 ax)) (fun i v t az ax=>qu i v t az ax (A4 ae.2 ax))
 | ref o e i off b k ab=>simp[cL]at ae;exact .ref o e i off b k (qs o e _ ae ab)
 | k5 a o e i k clip bo=>exact .k5 a o e i k clip bo
 | ms o e i len k clip b cap n ab hle fF gu aw dn hex=>simp[cL]at ae;exact .ms o e i len k clip b cap n (qs o e _ ae ab) hle fF gu aw dn hex
 | mp o b k ab=>simp[cL]at ae;exact .mp o b k (qs o 0 _ ae ab)
 | bF o b k ab=>simp[cL]at ae;exact .bF o b k (qs o 0 _ ae ab)
 | dead v=>exact .dead v
theorem Qp[cf](b4:∀(o:Nat) x,p o=true→h[o]? = some x→e5 D β w o x)(cR:∀ b,D b→D2 b)(mq:∀ o e b k,p o=true→β o e=some (b,k)→D2 b)
  (nY:∀ o e y,p o=false→β o e=some y→β2 o e=some y) {v:Value} {x y:ah} (aI:jk h p x=some y) (al:bf D β w v x):bf D2 β2 w v y:=by
 unfold jk at aI
 split at aI
 ·rename_i ae
  simp at aI;subst aI
  exact A5 cR nY al ae
 ·split at aI
  ·rename_i t ax
   simp at aI;subst aI
   exact .t _ _ (CM b4 cR mq 20 x v t ax al)
  ·simp at aI
theorem YB[cf](b4:∀(o:Nat) x,p o=true→h[o]? = some x→e5 D β w o x)(cR:∀ b,D b→D2 b)(mq:∀ o e b k,p o=true→β o e=some (b,k)→D2 b)
  (nY:∀ o e y,p o=false→β o e=some y→β2 o e=some y) {v:Value} {x y:ah} (aI:dV h p x=some y) (al:bf D β w v x):bf D2 β2 w v y:=by
 unfold dV at aI
 split at aI
 ·rename_i cs
  split at aI
  ·rename_i ae
   simp at aI;subst aI
   exact A5 cR nY al (by simpa[cL]using ae)
  ·split at aI
   ·rename_i ds ra
    simp at aI;subst aI
    obtain⟨ad,ag⟩:=sE ra
    cases al with
    | agg a _ ao uR =>
     refine bf.kJ (by omega) fun i v t az ax=>?_
     have hi:i<cs.length:=by rw[ad];exact(cD.1 ax).1
     have af:cs[i]? = some cs[i]:=by simp[hi]
     exact Qp b4 cR mq nY (ag i _ t af ax) (uR i v _ az af)
   ·simp at aI
 ·exact Qp b4 cR mq nY aI al
theorem Xl{x:ah}(ae:cL p x=true){j:Nat}{c:ah}(af:x.cells[j]? = some c):cL p c=true:=by
 cases x with
 | t y=>rw[yG,eE,mH]at af;obtain⟨u,_,rfl⟩:=af;rfl
 | agg cs=>exact A4 (p:=p) (l:=cs) (by simpa[cL]using ae) af
 | dead=>simp[ah.cells]at af
 | _ =>
  cases j with
  | zero=>simp[ah.cells]at af;subst af;exact ae
  | succ j=>simp[ah.cells]at af
theorem Yz[cf](b4:∀(o:Nat) x,p o=true→h[o]? = some x→e5 D β w o x)(cR:∀ b,D b→D2 b)(mq:∀ o e b k,p o=true→β o e=some (b,k)→D2 b)
  (nY:∀ o e y,p o=false→β o e=some y→β2 o e=some y) {x y:ah} (aI:dV h p x=some y) :
  x.cells.length=y.cells.length∧∀(j:Nat) c d v,x.cells[j]? = some c→y.cells[j]? = some d→bf D β w v c→bf D2 β2 w v d:=by
 have Dm:∀ {x:ah},cL p x=true→x.cells.length=x.cells.length∧∀(j:Nat) c d v,x.cells[j]? = some c→x.cells[j]? = some d→bf D β w v c→bf D2 β2 w v d:=by
  intro x ae
  refine⟨rfl,fun j c d v af aF al=>?_⟩
  rw[af]at aF
  cases aF
  exact A5 cR nY al (Xl ae af)
 have aiK:∀ {x y:ah},jk h p x=some y→x.cells.length=y.cells.length∧∀(j:Nat) c d v,x.cells[j]? = some c→y.cells[j]? = some d→bf D β w v c→bf D2 β2 w v d:=by
  intro x y aI
  unfold jk at aI
  split at aI
  ·rename_i ae
   simp at aI;subst aI
   exact Dm ae
  ·split at aI
   ·rename_i t ax
    simp at aI;subst aI
    obtain⟨cg,c5⟩:=VU ax
    rw[yG]
    refine⟨by simpa using cg,fun j c d v af aF al=>?_⟩
    rw[eE,mH]at aF
    obtain⟨u,hu,rfl⟩:=aF
    obtain⟨hv,_,J⟩:=c5 j c u af hu
    exact .t _ _ (CM b4 cR mq hv c v u J al)
   ·simp at aI
 unfold dV at aI
 split at aI
 ·rename_i cs
  split at aI
  ·rename_i ae
   simp at aI;subst aI
   exact Dm (by simpa[cL]using ae)
  ·split at aI
   ·rename_i ds ra
    simp at aI;subst aI
    obtain⟨ad,ag⟩:=sE ra
    rw[ado]
    refine⟨ad,fun j c d v af aF al=>?_⟩
    exact Qp b4 cR mq nY (ag j c d af aF) al
   ·simp at aI
 ·exact aiK aI
theorem Yy{x:ah}(ae:cL p x=true):dV h p x=some x:=by
 unfold dV
 split
 ·rename_i cs
  have:dw p cs=true:=by simpa[cL]using ae
  simp[this]
 ·simp[jk,ae]
theorem atu{l:List ah}(ae:dw p l=true):b5 (dV h p) l=some l:=by
 induction l with
 | nil=>rfl
 | cons c r au =>
  simp[dw]at ae
  simp[b5,Yy ae.1,au ae.2]
theorem att{l:List (Value × ah)}(ae:l.all (fun dF=>cL p dF.2)=true):b5 (GZ h p) l=some l:=by
 induction l with
 | nil=>rfl
 | cons c r au =>
  simp only[Ga,fe]at ae
  simp[b5,GZ,Yy ae.1,au ae.2]
theorem Qr[cf](b4:∀(o:Nat) x,p o=true→h[o]? = some x→e5 D β w o x)(cR:∀ b,D b→D2 b)(mq:∀ o e b k,p o=true→β o e=some (b,k)→D2 b)
  (nY:∀ o e y,p o=false→β o e=some y→β2 o e=some y) (HR:∀ o e y,p o=false→β2 o e=some y→β o e=some y) (Sn:∀ o e b k,p o=false→β o e=some (b,k)→D2 b→D b)
  {o:Nat} {x y:a9} (aC:p o=false) (U:e5 D β w o x) (aI:dk h p x=some y):e5 D2 β2 w o y:=by
 cases x with
 | gone=>simp[dk]at aI;subst aI;trivial
 | row k es aG =>
  have Rl:∃ gI,b5 (dV h p) es=some gI∧y=.row k gI aG:=by
   simp only[dk]at aI
   split at aI
   ·rename_i ae;simp at aI;exact⟨es,atu ae,aI.symm⟩
   ·split at aI
    ·rename_i gI he;simp at aI;exact⟨gI,he,aI.symm⟩
    ·simp at aI
  obtain⟨gI,he,rfl⟩:=Rl
  obtain⟨ad,ag⟩:=sE he
  have af:∀(i:Nat) eX,gI[i]? = some eX→∃ x,es[i]? = some x∧dV h p x=some eX:=by
   intro i eX dM
   have hi:i<es.length:=by rw[ad];exact(cD.1 dM).1
   have HN:es[i]? = some es[i]:=by simp[hi]
   exact⟨_,HN,ag i _ eX HN dM⟩
  refine⟨fun i eX dM=>?_,fun e b bg ab=>?_⟩
  ·obtain⟨x,ko,k3⟩:=af i eX dM
   rw[← (Yz b4 cR mq nY k3).1]
   exact U.1 i x ko
  ·have cS:=HR o e _ aC ab
   obtain⟨DR,an,hle,ov⟩:=U.2 e b bg cS
   refine⟨fun q=>DR (Sn o e b bg aC cS q),an,by omega,fun hm=>?_⟩
   obtain⟨c,ty,a3,a7,cz⟩:=ov hm
   refine⟨c,ty,a3,a7,fun i eX j t hi dM ax=>?_⟩
   obtain⟨x,ko,k3⟩:=af i eX dM
   obtain⟨cg,c5⟩:=Yz b4 cR mq nY k3
   have aU:j<x.cells.length:=by rw[cg];exact(cD.1 ax).1
   have uL:x.cells[j]? = some x.cells[j]:=by simp[aU]
   obtain⟨v,b9,b3,cG⟩:=cz i x j _ hi ko uL
   exact⟨v,b9,b3,c5 j _ t v uL ax cG⟩
 | map es =>
  have Rl:∃ gI,b5 (GZ h p) es=some gI∧y=.map gI:=by
   simp only[dk]at aI
   split at aI
   ·rename_i ae;simp only[Option.some.injEq]at aI;exact⟨es,att ae,aI.symm⟩
   ·split at aI
    ·rename_i gI he;simp at aI;exact⟨gI,he,aI.symm⟩
    ·simp at aI
  obtain⟨gI,he,rfl⟩:=Rl
  obtain⟨ad,ag⟩:=sE he
  intro e b k ab
  have cS:=HR o e _ aC ab
  obtain⟨bo,DR,mes,clock,a3,a7,mh,cz⟩:=U e b k cS
  refine⟨bo,fun q=>DR (Sn o e b k aC cS q),mes,clock,a3,by omega,mh,fun i m asJ hm h4=>?_⟩
  have hi:i<es.length:=by rw[ad];exact(cD.1 h4).1
  have HN:es[i]? = some es[i]:=by simp[hi]
  have qh:=ag i _ asJ HN h4
  obtain⟨b9,b3⟩:=cz i m _ hm HN
  unfold GZ at qh
  split at qh
  ·rename_i v az
   simp at qh;subst qh
   exact⟨b9,YB b4 cR mq nY az b3⟩
  ·simp at qh
 | loop f env params assign body busy pending =>
  simp only[dk]at aI
  split at aI
  ·rename_i ae
   simp at aI;subst aI
   intro e b k ab
   have cS:=HR o e _ aC ab
   obtain⟨bo,DR,L,a3,a7,cz,eJ,gD,wC,wD,hk⟩:=U e b k cS
   exact⟨bo,fun q=>DR (Sn o e b k aC cS q),L,a3,a7,cz,eJ,gD,wC,wD,hk.1,fun i v x az U=>A5 cR nY (hk.2 i v x az U) (A4 ae U)⟩
  ·simp at aI
def iy(D:c8)(β:dt)(p:Nat→Bool):c8:=fun b=>D b∨∃ o e k,p o=true∧β o e=some (b,k)
theorem er.iy(ay:er Z D β w)(p:Nat→Bool):er Z (iy D β p) β w :=
 { ay with
  hV:=fun b ab=>ab.elim (ay.hV b) (fun⟨o,e,k,_,h⟩=>(ay.blt o e b k h).2)
  lM:=fun b ab ao=>ab.elim (fun h=>ay.lM b h ao) (fun⟨o,e,k,_,h⟩=>absurd (ay.blt o e b k h).1 (by omega))
  eU:=fun b ds ab bG=>⟨fun aF=>aF.elim (ay.eU b ds ab bG).1 (fun⟨o,e,k,_,h⟩=>(ay.eU b ds ab bG).2 o e k h),(ay.eU b ds ab bG).2⟩ }
theorem PY(ay:er Z D β w){o e b k:Nat}(aC:p o=false)(ab:β o e=some (b,k))(aF:iy D β p b):D b:=by
 rcases aF with aF|⟨cC,bs,bg,av,cS⟩
 ·exact aF
 ·have:=ay.inj _ _ _ _ _ _ _ ab cS
  subst this
  simp[aC]at av
theorem Qq[cf](b4:∀(o:Nat) x,p o=true→h[o]? = some x→e5 D β w o x)(cR:∀ b,D b→D2 b)(mq:∀ o e b k,p o=true→β o e=some (b,k)→D2 b)
  (nY:∀ o e y,p o=false→β o e=some y→β2 o e=some y) {tmps:Array Value} {env:Env} (he:g3 D β w tmps env):g3 D2 β2 w tmps (uJ h p env):=by
 refine⟨by simp[uJ,he.1],fun i v x az U=>?_⟩
 simp only[uJ,eE,mH]at U
 obtain⟨y,ar,rfl⟩:=U
 split
 ·rename_i z bl
  exact YB b4 cR mq nY bl (he.2 i v y az ar)
 ·exact .dead v
def A6(β:dt)(n:Nat):dt:=fun o e=>if o<n then β o e else none
theorem Dq{n o e:Nat}{y:Nat × Nat}(h:A6 β n o e=some y):o<n∧β o e=some y:=by
 unfold A6 at h
 split at h
 ·exact⟨by assumption,h⟩
 ·simp at h
theorem er.below(ay:er Z D β w)(n:Nat):er Z D (A6 β n) w :=
 { ay with
  blt:=fun o e b k h=>ay.blt o e b k (Dq h).2
  inj:=fun o e b k cC bs bg h ai=>ay.inj o e b k cC bs bg (Dq h).2 (Dq ai).2
  eU:=fun b ds ab bG=>⟨(ay.eU b ds ab bG).1,fun o e k h=>(ay.eU b ds ab bG).2 o e k (Dq h).2⟩ }
theorem aeD[cf]{n:Nat}{env bz:Env}(J:shrink n env h=some (bz,ai))(hi:Inv Z D β h w):∃ D2 β2,Inv Z D2 β2 ai w∧(∀ tmps,g3 D β w tmps env→g3 D2 β2 w tmps bz) ∧
  (∀ b,D b→D2 b)∧(∀ o e y,o<n→β o e=some y→β2 o e=some y)∧ai.length=min n h.length:=by
 unfold shrink at J
 split at J
 ·rename_i ao
  simp at J
  obtain⟨rfl,rfl⟩:=J
  exact⟨D,β,hi,fun _ h=>h,fun _ h=>h,fun _ _ _ _ h=>h,by omega⟩
 ·rename_i ao
  split at J
  ·rename_i ag hm
   simp at J
   obtain⟨rfl,rfl⟩:=J
   obtain⟨a3,a7⟩:=sE hm
   have hlen:ag.length=n:=by rw[← a3];simp;omega
   have b4:∀(o:Nat) x,bV n o=true→h[o]? = some x→e5 D β w o x:=fun o x _ U=>hi.obj o x U
   have cR:∀ b,D b→iy D β (bV n) b:=fun b ab=>.inl ab
   have mq:∀ o e b k,bV n o=true→β o e=some (b,k)→iy D β (bV n) b:=fun o e b k av ab=>.inr ⟨o,e,k,av,ab⟩
   have nY:∀ o e y,bV n o=false→β o e=some y→A6 β n o e=some y:=by
    intro o e y av ab
    simp[bV]at av
    simp[A6,av,ab]
   have HR:∀ o e y,bV n o=false→A6 β n o e=some y→β o e=some y:=fun o e y _ ab=>(Dq ab).2
   refine⟨iy D β (bV n),A6 β n,⟨(hi.g.iy _).below n,fun o y ar=>?_,fun o e y ar=>by rw[hlen];exact(Dq ar).1⟩,fun tmps he=>Qq b4 cR mq nY he,cR,fun o e y aC ab=>nY o e y (by simp[bV];omega) ab,by omega⟩
   have aC:o<n:=by rw[← hlen];exact(cD.1 ar).1
   have U:(h.take n)[o]? = some h[o]:=by simp[aC]
   have dM:h[o]? = some h[o]:=by simp
   have av:bV n o=false:=by simp[bV];omega
   exact Qr b4 cR mq nY HR (fun o e b k av ab aF=>PY hi.g av ab aF) av (hi.obj o _ dM) (a7 o _ y U ar)
  ·simp at J
theorem YL{p:Nat→Bool}:∀ {l:aj} {i:Nat} {gg:aj},tl h p i l=some gg→l.length=gg.length∧∀(j:Nat) x y,l[j]? = some x→gg[j]? = some y→(p (i+j)=true∧y=.gone)∨(p (i+j)=false∧dk h p x=some y):=by
 intro l
 induction l with
 | nil=>intro i gg ay;simp[tl]at ay;subst ay;exact⟨rfl,by simp⟩
 | cons a r au =>
  intro i gg ay
  simp only[tl]at ay
  split at ay
  ·rename_i y ys ar Sm
   simp at ay;subst ay
   obtain⟨ad,ag⟩:=au Sm
   refine⟨by simp[ad],fun j x z U bl=>?_⟩
   cases j with
   | zero =>
    simp at U bl
    subst U;subst bl
    by_cases av:p i=true
    ·simp[av]at ar;exact .inl ⟨av,ar.symm⟩
    ·simp[av]at ar;exact .inr ⟨by simpa using av,ar⟩
   | succ j =>
    have:=ag j x z (by simpa using U) (by simpa using bl)
    have e:i+1+j=i+(j+1):=by omega
    rwa[e]at this
  ·simp at ay
theorem alc[cf]{os:List Nat}{env bz:Env}(J:freeze os env h=some (bz,ai))(hi:Inv Z D β h w):∃ D2,Inv Z D2 β ai w∧(∀ tmps,g3 D β w tmps env→g3 D2 β w tmps bz) ∧
  (∀ b,D b→D2 b)∧ai.length=h.length:=by
 unfold freeze at J
 split at J
 ·rename_i ag hm
  simp only[Option.some.injEq,Prod.mk.injEq]at J
  obtain⟨rfl,rfl⟩:=J
  generalize BJ:(fun o=>os.contains o)=p at hm ⊢
  obtain⟨a3,a7⟩:=YL hm
  have b4:∀(o:Nat) x,p o=true→h[o]? = some x→e5 D β w o x:=fun o x _ U=>hi.obj o x U
  have cR:∀ b,D b→iy D β p b:=fun b ab=>.inl ab
  have mq:∀ o e b k,p o=true→β o e=some (b,k)→iy D β p b:=fun o e b k av ab=>.inr ⟨o,e,k,av,ab⟩
  refine⟨iy D β p,⟨hi.g.iy _,fun o y ar=>?_,fun o e y ar=>by rw[← a3];exact hi.kk o e y ar⟩,fun tmps he=>Qq b4 cR mq (fun _ _ _ _ h=>h) he,cR,a3.symm⟩
  have aC:o<h.length:=by rw[a3];exact(cD.1 ar).1
  have U:h[o]? = some h[o]:=by simp
  rcases a7 o _ y U ar with⟨av,rfl⟩|⟨av,aI⟩
  ·trivial
  ·simp only[nD]at av
   exact Qr b4 cR mq (fun _ _ _ _ h=>h) (fun _ _ _ _ h=>h) (fun o e b k av ab aF=>PY hi.g av ab aF) av (hi.obj o _ U) aI
 ·simp at J
theorem asB{aq:List Tmp}{env:Env}{tmps:Array Value}(he:g3 D β w tmps env):g3 D β w tmps (ER aq env):=by
 refine⟨by simp[ER,he.1],fun i v x az U=>?_⟩
 simp only[ER,J8,mH]at U
 obtain⟨y,ar,rfl⟩:=U
 split
 ·exact he.2 i v y az ar
 ·exact .dead v
theorem N7{live:Option (List Tmp)}{env:Env}{tmps:Array Value}(he:g3 D β w tmps env):g3 D β w tmps (tidy live env):=by
 unfold tidy
 split
 ·exact asB he
 ·exact he
end Go.Abs
/- What a call owes,and the steps of the machine that the evaluator's single operations stand for. -/
namespace Go.Abs
open Go
variable{P:Program}{pol:c4}{K:eZ}{I:eY}{Z:hG}{D a5:c8}{β a4:dt}{w w':World}{h ai:aj}{ro:Option Nat}
def fu(ro:Option Nat):Fence:={ Fence.wide with round:=ro }
theorem PJ{n:Nat}{f:FuncId}{args:Array Value}{R:Ending→World→Prop}(af:CallsIn Fence.wide n P f args w R):CallsIn (fu ro) n P f args w R:=af
theorem axv{n l:Nat}{f:FuncId}{tmps:Array Value}{assign body:Code}{R:Ending→World→Prop}(af:RoundIn Fence.wide n P l f tmps assign body w R):RoundIn (fu ro) n P l f tmps assign body w R:=af
structure hH(pol:c4)(D:c8)(w:World):Prop where
 rep:∀ g x,pol.gK g=some x→eO D w (.pointer (some ⟨g,0,none⟩)) x
 row:∀ g aq,pol.gK g=some (.ip aq)→D g∧∃ cs ty bQ,w.heap[g]? = some (.cells cs ty bQ)∧cs.size=aq.length
theorem hH.mono(ay:hH pol D w)(U:Ext D β w a5 a4 w'):hH pol a5 w' :=
 ⟨fun g x h=>(ay.rep g x h).mono U.sub U.same,fun g aq h=>let⟨aF,cs,ty,bQ,af,aw⟩:=ay.row g aq h;⟨U.sub g aF,cs,ty,bQ,(U.same g aF).trans af,aw⟩⟩
theorem hH.sub(ay:hH pol D w)(J:∀ b,D b→a5 b):hH pol a5 w :=
 ⟨fun g x h=>(ay.rep g x h).mono J (fun _ _=>rfl),fun g aq h=>let⟨aF,r⟩:=ay.row g aq h;⟨J g aF,r⟩⟩
structure sU(w w':World):Prop where
 size:w.heap.size≤w'.heap.size
 dy:∀ b,b<w.heap.size→w'.heap[b]? = w.heap[b]?
 os:w'.os=w.os
 out:w'.output=w.output
def wk(D:c8)(w w':World):c8:=fun b=>D b∨(w.heap.size≤b∧b<w'.heap.size∧∀ ds,w'.heap[b]? ≠ some (.deferred ds))
theorem P9(an:sU w w')(aF:∀ b,D b→b<w.heap.size):Ext D β w (wk D w w') β w' where
 sub b ab:=.inl ab
 same b ab:=an.dy b (aF b ab)
 oR _ _ _ h:=h
 rows b n aw:=by
  unfold jv at *
  cases ab:w.heap[b]? with
  | none=>simp[ab]at aw
  | some x=>rw[an.dy b (lU ab),ab];simpa[ab]using aw
 defs b ds h:=(an.dy b (lU h)).trans h
 loops b L h:=⟨L,(an.dy b (lU h)).trans h⟩
 size:=an.size
theorem Yx{S:Nat→Prop}(an:sU w w')(ay:er Z D β w):hd S D β w (wk D w w') β w'∧er Z (wk D w w') β w':=by
 refine⟨⟨P9 an ay.hV,fun o e b k _ ab=>?_,fun _ _ _=>rfl⟩,?_⟩
 ·have:=(ay.blt o e b k ab).2
  exact⟨an.dy b this,fun h=>h.elim id (fun h=>by omega)⟩
 ·have J:=ay.jS
  refine⟨by have:=an.size;omega,fun b ab=>(an.dy b (by omega)).trans (ay.dy b ab),an.os.trans ay.os,an.out.trans ay.out,fun b ab=>?_,fun b ab ao=>?_,fun o e b k ab=>?_,ay.inj,fun b ds ab bG=>?_⟩
  ·rcases ab with ab|ab
   ·have:=ay.hV b ab;have:=an.size;omega
   ·exact ab.2.1
  ·rcases ab with ab|ab
   ·exact ay.lM b ab ao
   ·omega
  ·have:=ay.blt o e b k ab;have:=an.size;omega
  ·by_cases h:b<w.heap.size
   ·have cS:=ab
    rw[an.dy b h]at cS
    obtain⟨a3,a7⟩:=ay.eU b ds cS bG
    exact⟨fun aF=>aF.elim a3 (fun x=>by omega),a7⟩
   ·exact⟨fun aF=>aF.elim (fun x=>h (ay.hV b x)) (fun x=>x.2.2 ds ab),fun o e k h4=>h (ay.blt o e b k h4).2⟩
def AH(P:Program)(f:FuncId):Prop:=∃ fn c,P.funcs[f]? = some fn∧fn.body=some c∧fn.name ≠ "runtime.NumGoroutine"
theorem yz{f:FuncId}(aI:AH P f)(args:Array Value)(w:World):(callFunc f args).run P w=.ok (.enter f args) w:=by
 obtain⟨fn,c,ad,ag,aJ⟩:=aI
 simp[callFunc,program,Sem.run,bind,Sem.bind,ad,ag,aJ,pure]
def rZ(P:Program)(pol:c4)(f:FuncId)(aq:List T)(r:T):Prop :=
 AH P f∧∀(w:World) (D:c8) (args:Array Value),(∀ b,D b→b<w.heap.size)→hH pol D w→args.size=aq.length →
  (∀(i:Nat) v t,args[i]? = some v→aq[i]? = some t→eO D w v t)→CallsIn Fence.wide 0 P f args w (fun e w'=>∃ v,e=.returned v∧sU w w'∧eO (wk D w w') w' v r)
def l2(P:Program)(pol:c4)(K:eZ):Prop:=∀ f aq r,K f aq=some r→rZ P pol f aq r
def yU[cf](pol:c4)(Z:hG)(D:c8)(β:dt)(w:World)(v:ah)(ai:aj)(e:Ending)(w':World):Prop :=
 ∃ bU,e=.returned bU∧∃ a5 a4,Inv Z a5 a4 ai w'∧hH pol a5 w'∧Ext D β w a5 a4 w'∧bf a5 a4 w' bU v
def JR(br:List PanicEntry):Prop:=∃ t v,br=[{ v:=.iface t v,recovered:=false }]
def af3[cf](pol:c4)(Z:hG)(D:c8)(β:dt)(w:World)(ai:aj)(e:Ending)(w':World):Prop :=
 ∃ br,JR br∧e=.panicked br∧∃ a5 a4,Inv Z a5 a4 ai w'∧hH pol a5 w'∧Ext D β w a5 a4 w'
def JS[cf](pol:c4)(Z:hG)(D:c8)(β:dt)(w:World)(v:ah)(ai:aj)(e:Ending)(w':World):Prop :=
 (v≠.dead∧yU pol Z D β w v ai e w')∨(v=.dead∧af3 pol Z D β w ai e w')
structure j9[cf](P:Program)(pol:c4)(I:eY):Prop where
 fn:∀ f args h v ai,I (.fn f) args h=some (v,ai)→AH P f∧∀(Z:hG) (D:c8) (β:dt) (w:World) (vs:List Value),Inv Z D β h w→hH pol D w→ir D β w vs args →
  CallsIn Fence.wide 0 P f vs.toArray w (JS pol Z D β w v ai)
 bF:∀ o args h v ai,I (.bF o) args h=some (v,ai)→∀(Z:hG) (D:c8) (β:dt) (w:World) (vs:List Value) (b k:Nat),Inv Z D β h w→hH pol D w→ir D β w vs args→β o 0=some (b,k) →
  ∃ g tmps assign body,(Instr.yield b vs.toArray).run P w=.ok (.round b g tmps assign body) w∧RoundIn Fence.wide 0 P b g tmps assign body w (yU pol Z D β w v ai)
theorem Pp{x:Option (ah × aj)}{v:ah}{ai:aj}(h:alive x=some (v,ai)):x=some (v,ai)∧v≠.dead:=by
 unfold alive at h
 split at h
 ·cases h
 ·rename_i U
  exact⟨h,fun e=>U ai (by rw[h,e])⟩
theorem j9.live[cf](bK:j9 P pol I){f:FuncId}{args:List ah}{v:ah}(J:alive (I (.fn f) args h)=some (v,ai)):AH P f∧∀(Z:hG) (D:c8) (β:dt) (w:World) (vs:List Value),Inv Z D β h w→hH pol D w→ir D β w vs args →
  CallsIn Fence.wide 0 P f vs.toArray w (yU pol Z D β w v ai):=by
 obtain⟨ad,ag⟩:=Pp J
 obtain⟨af,av⟩:=bK.fn f args h v ai ad
 refine⟨af,fun Z D β w vs a b c=>CallsIn.mono (av Z D β w vs a b c) fun e w' al=>?_⟩
 rcases al with⟨_,al⟩|⟨aF,_⟩
 ·exact al
 ·exact absurd aF ag
theorem j9.trim[cf](bK:j9 P pol I){f:FuncId}{args:List ah}{v:ah}{b:Bool}(J:pr b h (alive (I (.fn f) args h))=some (v,ai)):AH P f∧∀(Z:hG) (D:c8) (β:dt) (w:World) (vs:List Value),Inv Z D β h w→hH pol D w→ir D β w vs args →
  CallsIn Fence.wide 0 P f vs.toArray w (yU pol Z D β w v ai):=by
 unfold pr at J
 split at J
 ·split at J
  ·rename_i x ag U
   split at J
   ·rename_i bw aJ hy
    simp only[Option.some.injEq,Prod.mk.injEq]at J
    obtain⟨rfl,rfl⟩:=J
    obtain⟨af,av⟩:=bK.live U
    refine⟨af,fun Z D β w vs a b c=>CallsIn.mono (av Z D β w vs a b c) fun e w' al=>?_⟩
    obtain⟨bU,rfl,a5,a4,fz,zC,dM,su⟩:=al
    obtain⟨D2,β2,a3,a7,cz,eJ,_⟩:=aeD hy fz
    refine⟨bU,rfl,D2,β2,a3,zC.sub cz,{ dM with sub:=fun b ab=>cz b (dM.sub b ab),oR:=fun o e y ar=>eJ o e y (a.kk o e y ar) (dM.oR o e y ar) },.t _ _ (su.dN.mono cz (fun _ _=>rfl))⟩
   ·cases J
  ·cases J
 ·exact bK.live J
theorem GR{a:Act}{env:Env}(he:g3 D β w a.tmps env)(ay:hH pol D w)(x:Operand):bf D β w (a.eval x) (g7 pol env x):=by
 cases x with
 | tmp t =>
  simp only[Act.eval,g7]
  by_cases ax:t<env.length
  ·have ad:env[t]? = some env[t]:=by simp[ax]
   have jN:t<a.tmps.size:=by rw[he.1];exact ax
   have ag:a.tmps[t]? = some a.tmps[t]:=by simp[jN]
   have:=he.2 t _ _ ag ad
   rw[r6,ag,qU,ad]
   exact this
  ·rw[qU,kb (Pf ax)]
   exact .dead _
 | const v =>
  simp only[Act.eval,g7]
  split
  ·rename_i az;exact .t _ _ (pc az)
  ·exact .dead _
 | global g =>
  simp only[Act.eval,g7]
  split
  ·rename_i x U;exact .t _ _ (ay.rep g x U)
  ·exact .dead _
 | func f=>exact .t _ _ (.fn _ #[] #[] [] [] rfl rfl (by simp) (by simp))
theorem g3.set{tmps:Array Value}{env:Env}(he:g3 D β w tmps env)(d:Nat){v:Value}{x:ah}(al:bf D β w v x):g3 D β w (tmps.setIfInBounds d v) (env.set d x):=by
 refine⟨by simp[he.1],fun i u y hu ar=>?_⟩
 rw[yZ]at hu
 rw[oO]at ar
 by_cases hi:d=i
 ·subst hi
  by_cases ao:d<env.length
  ·have j3:d<tmps.size:=by rw[he.1];exact ao
   simp[j3]at hu
   simp[ao]at ar
   subst hu;subst ar
   exact al
  ·simp[ao]at ar
 ·simp[hi]at hu ar
  exact he.2 i u y hu ar
theorem g3.put{a:Act}{env:Env}(he:g3 D β w a.tmps env)(dst:Option Tmp){v:Value}{x:ah}(al:bf D β w v x):g3 D β w (a.put dst v).tmps (Go.Abs.put env dst x):=by
 cases dst with
 | none=>exact he
 | some d=>exact he.set d al
theorem tS(a:Act)(dst:Option Tmp)(v:Value):(a.put dst v).defers=a.defers:=by cases dst<;>rfl
theorem FI:bf D β w undef (.t (.aA undef)):=.t _ _ (.aA _ rfl)
theorem Ji{ρ:Operand→ah}{ρr:Operand→Value}(dz:∀ x,bf D β w (ρr x) (ρ x))(l:List Operand):ir D β w (l.map ρr) (l.map ρ):=by
 refine⟨by simp,fun i v x az U=>?_⟩
 rw[eE,mH]at az U
 obtain⟨a,ae,rfl⟩:=az
 obtain⟨b,ab,rfl⟩:=U
 rw[ae]at ab
 cases ab
 exact dz a
theorem ir.append{vs j6:List Value}{xs afB:List ah}(ad:ir D β w vs xs)(ag:ir D β w j6 afB):ir D β w (vs++j6) (xs++afB):=by
 refine⟨by simp[ad.1,ag.1],fun i v x az U=>?_⟩
 rw[vz]at az U
 rw[← ad.1]at U
 split at az
 ·rename_i hi;rw[a6 hi]at U;exact ad.2 i v x az U
 ·rename_i hi;rw[a2 hi]at U;exact ag.2 _ v x az U
theorem ir.mono{vs:List Value}{xs:List ah}(U:Ext D β w a5 a4 w')(ad:ir D β w vs xs):ir a5 a4 w' vs xs:=⟨ad.1,fun i v x az he=>(ad.2 i v x az he).mono U⟩
theorem Cu{a:Array Value}{aq:List T}(J:a.size=aq.length)(al:∀(i:Nat) v t,a[i]? = some v→aq[i]? = some t→eO D w v t):ir D β w a.toList (aq.map .t):=by
 refine⟨by simp[J],fun i v x az U=>?_⟩
 rw[eE,mH]at U
 obtain⟨t,ax,rfl⟩:=U
 exact .t _ _ (al i v t (by simpa using az) ax)
theorem aee{a:Array Value}{xs:List ah}(J:a.size=xs.length)(al:∀(i:Nat) v t,a[i]? = some v→xs[i]? = some t→bf D β w v t):ir D β w a.toList xs :=
 ⟨by simp[J],fun i v x az U=>al i v x (by simpa using az) U⟩
theorem Du{x:ah}{cm:Value}{args Ks:List ah}{vs:List Value}{g:sY}(ae:nH x args=some (.call g Ks))(U:bf D β w cm x)(al:ir D β w vs args) :
  ∃ d j6,(∀ w,(Deferred.ofValue cm vs.toArray).run P w=.ok d w)∧ir D β w j6 Ks ∧
   (match g with
    | .fn f=>∀ w,(invoke d.target d.args).run P w=(callFunc f j6.toArray).run P w
    | .bF o=>∃ b k,β o 0=some (b,k)∧∀ w,(invoke d.target d.args).run P w=(Instr.yield b j6.toArray).run P w):=by
 have Yq:∀ {f:Fn} {a b:Array Value} {dW fo:List ah},Dt dW f fo args=some (.call g Ks)→cm=.func f a b→ir D β w a.toList dW→ir D β w b.toList fo →
   ∃ d j6,(∀ w,(Deferred.ofValue cm vs.toArray).run P w=.ok d w)∧ir D β w j6 Ks ∧
   (match g with
    | .fn f=>∀ w,(invoke d.target d.args).run P w=(callFunc f j6.toArray).run P w
    | .bF o=>∃ b k,β o 0=some (b,k)∧∀ w,(invoke d.target d.args).run P w=(Instr.yield b j6.toArray).run P w):=by
  intro f a b dW fo af az ad ag
  unfold Dt at af
  split at af
  ·rename_i nS
   cases af
   subst az
   refine⟨{ target:=.fn (.func nS) b,args:=a++vs.toArray },a.toList++vs++b.toList,fun w=>rfl,(ad.append al).append ag,fun w=>?_⟩
   have e:a++vs.toArray++b=(a.toList++vs++b.toList).toArray:=by apply vB;simp
   simp only[invoke]
   rw[e]
  ·simp at af
 unfold nH at ae
 split at ae
 ·rename_i f first captured
  have ax:=U.dN
  cases ax with
  | fn _ a b _ _ s1 s2 b9 b3=>exact Yq ae rfl (Cu s1 b9) (Cu s2 b3)
 ·rename_i f first captured
  cases U with
  | fn _ a b _ _ s1 s2 b9 b3=>exact Yq ae rfl (aee s1 b9) (aee s2 b3)
 ·rename_i o
  simp at ae
  obtain⟨rfl,rfl⟩:=ae
  cases U with
  | bF _ b k ab =>
   refine⟨{ target:=.fn (.yield b) #[],args:=#[]++vs.toArray },vs,fun w=>rfl,al,b,k,ab,fun w=>?_⟩
   simp[invoke]
 ·simp at ae
theorem adO{r:T}{v:Value}(av:r.plain=true)(al:eO D w v r):eO a5 w' v r:=by
 have aew:∀ {cs:Array Value} {aq:List T},cs.size=aq.length→(∀(i:Nat) v t,cs[i]? = some v→aq[i]? = some t→eO D w v t)→(aq.all fun|.aA _=>true|_=>false)=true →
   ∀(i:Nat) v t,cs[i]? = some v→aq[i]? = some t→eO a5 w' v t:=by
  intro cs aq ao h ie i v t az ax
  have hm:=jY.1 ie t (gp ax)
  have al:=h i v t az ax
  cases t<;>simp at hm
  obtain⟨rfl,aw⟩:=al.fS
  exact .aA _ aw
 cases al with
 | aA v az=>exact .aA v az
 | agg cs aq ao h=>exact .agg cs aq ao (aew ao h av)
 | ch cs aq ao h =>
  refine .ch cs aq ao fun i v t az ax=>?_
  have hm:=jY.1 av t (gp ax)
  have al:=h i v t az ax
  cases al with
  | aA v az=>exact .aA v az
  | agg cs aq ao h=>exact .agg cs aq ao (aew ao h hm)
  | _=>simp at hm
 | _=>simp[T.plain]at av
theorem FJ{o:Oper}{a:Act}{c:Call}{g:Operand}{f:FuncId}{vs:Array Value}{next:Act→World→Prop}{Q:Exit→Act→World→Prop}{d:Deferred}(aC:o.op=.call c)(af:c.callee=.value g)
  (aF:(Deferred.ofValue (a.eval g) (c.args.map a.eval)).run P w=.ok d w) (hi:(invoke d.target d.args).run P w=.ok (.enter f vs) w) {R:Ending→World→Prop} (ey:CallsIn Fence.wide 0 P f vs w R)
  (aw:∀ e w',R e w'→∃ v,e=.returned v∧next (a.put o.dst v) w'):o.wpIn (fu ro) 0 P a w next Q:=by
 refine⟨fun _ _=>trivial,?_⟩
 rw[Oper.semAt_eq _ _ _ (by rw[aC];simp)]
 have hex:(execOp a.eval o).run P w=.ok (.enter f vs) w:=by
  simp only[execOp,aC,resolve,af,Sem.run_bind,aF,Result.andThen,hi]
 rw[hex,Oper.uponIn_enter]
 refine⟨fun aF=>by simp[fu,Fence.wide]at aF,PJ (CallsIn.mono ey fun e w' bk=>?_)⟩
 obtain⟨v,rfl,U⟩:=aw e w' bk
 exact U
theorem aA6{o:Oper}{a:Act}{c:Call}{g:Operand}{l:Nat}{f:FuncId}{tmps:Array Value}{assign body:Code}{next:Act→World→Prop}{Q:Exit→Act→World→Prop}{d:Deferred}(aC:o.op=.call c)(af:c.callee=.value g)
  (aF:(Deferred.ofValue (a.eval g) (c.args.map a.eval)).run P w=.ok d w) (hi:(invoke d.target d.args).run P w=.ok (.round l f tmps assign body) w) {R:Ending→World→Prop} (ey:RoundIn Fence.wide 0 P l f tmps assign body w R)
  (aw:∀ e w',R e w'→∃ v,e=.returned v∧next (a.put o.dst v) w'):o.wpIn (fu ro) 0 P a w next Q:=by
 refine⟨fun _ _=>trivial,?_⟩
 rw[Oper.semAt_eq _ _ _ (by rw[aC];simp)]
 have hex:(execOp a.eval o).run P w=.ok (.round l f tmps assign body) w:=by
  simp only[execOp,aC,resolve,af,Sem.run_bind,aF,Result.andThen,hi]
 rw[hex,Oper.uponIn_round]
 refine⟨fun aF=>by simp[fu,Fence.wide]at aF,axv (RoundIn.mono ey fun e w' bk=>?_)⟩
 obtain⟨v,rfl,U⟩:=aw e w' bk
 exact U
theorem afu[cf]{o:Oper}{a:Act}{S:Nat→Prop}{v:ah}{next:Act→World→Prop}{Q:Exit→Act→World→Prop}(aC:∀ c,o.op≠.defer c)(aF:lC Z D β w ai S v ((execOp a.eval o).run P w))
  (aw:∀ bU w' a5 a4,bf a5 a4 w' bU v→hd S D β w a5 a4 w'→er Z a5 a4 w'→(∀(o:Nat) x,S o→ai[o]? = some x→e5 a5 a4 w' o x)→(∀ o e y,a4 o e=some y→(∃ bs od,β o bs=some od)∨o<ai.length)→next (a.put o.dst bU) w') :
  o.wpIn (fu ro) 0 P a w next Q:=by
 refine⟨fun _ _=>trivial,?_⟩
 rw[Oper.semAt_eq _ _ _ aC]
 obtain⟨ee,w',a5,a4,al,hm,aI,ay,mi,ts⟩:=aF
 rw[al]
 cases ee with
 | value bU=>exact aw bU w' a5 a4 hm aI ay mi ts
 | skip=>exact aw undef w' a5 a4 (by rw[hm];exact FI) aI ay mi ts
 | _=>exact hm.elim
end Go.Abs
/- One operation of the evaluator,and the machine's step that it stands for; regions in the order of the text. -/
namespace Go.Abs
open Go
abbrev sX:=Nat × List Deferred
variable{P:Program}{pol:c4}{K:eZ}{I:eY}{Z:hG}{D a5:c8}{β a4:dt}{w w':World}{h ai:aj}{ro:Option Nat}{M:sX}{f:FuncId}{ρ:Operand→ah}
theorem ags{b:Builtin}{at_:List TypeId}{ty:TypeId}{xs:List ah}{g:sY}{args:List ah}:mI P b at_ ty xs h≠some (.call g args):=by
 intro ae
 unfold mI at ae
 split at ae
 ·split at ae<;>try(simp at ae)
  split at ae<;>try(simp at ae)
  all_goals(split at ae<;>try(simp at ae))
  all_goals(split at ae<;>simp at ae)
 ·split at ae<;>try(simp at ae)
  split at ae<;>try(simp at ae)
  split at ae<;>simp at ae
 ·split at ae<;>try(simp at ae)
  split at ae<;>simp at ae
 ·simp at ae
 ·simp at ae
 ·simp at ae
theorem lJ{o:Oper}{g:sY}{args:List ah}(ae:bj P pol f ρ h o=some (.call g args)):∃ c x,o.op=.call c∧c.callee=.value x∧nH (ρ x) (c.args.toList.map ρ)=some (.call g args):=by
 have flag:∀ {x:Option ah},(match x with|some v=>some (g4.val v h)|none=>none)≠some (.call g args):=by
  intro x U
  cases x<;>simp at U
 have Rn:∀ {x:Option aj},(match x with|some ai=>some (g4.skip ai)|none=>none)≠some (.call g args):=by
  intro x U
  cases x<;>simp at U
 cases aN:o.op with
 | call c =>
  simp only[bj,aN]at ae
  split at ae
  ·exact absurd ae ags
  ·rename_i x U;exact⟨c,x,rfl,U,ae⟩
  ·simp at ae
 | move x=>simp[bj,aN]at ae
 | assign x =>
  exfalso;revert ae;simp only[bj,aN];repeat' split
  all_goals(intro ae;cases ae)
 | pick c a b =>
  exfalso;revert ae;simp only[bj,aN];repeat' split
  all_goals(intro ae;cases ae)
 | alloc t =>
  exfalso;revert ae;simp only[bj,aN];repeat' split
  all_goals(intro ae;cases ae)
 | box t x =>
  exfalso;revert ae;simp only[bj,aN];repeat' split
  all_goals(intro ae;cases ae)
 | build t parts=>simp only[bj,aN]at ae;exact absurd ae flag
 | buildSlice t len parts =>
  exfalso;revert ae;simp only[bj,aN];repeat' split
  all_goals(intro ae;cases ae)
 | load t a=>simp only[bj,aN]at ae;exact absurd ae flag
 | store t a x=>simp only[bj,aN]at ae;exact absurd ae Rn
 | nilCheck x =>
  exfalso;revert ae;simp only[bj,aN];repeat' split
  all_goals(intro ae;cases ae)
 | binOp op t x y cA=>simp only[bj,aN]at ae;exact absurd ae flag
 | unOp op t x =>
  exfalso;revert ae;simp only[bj,aN];repeat' split
  all_goals(intro ae;cases ae)
 | convert s t x =>
  exfalso;revert ae;simp only[bj,aN];repeat' split
  all_goals(intro ae;cases ae)
 | makeFunc fn first captured =>
  exfalso;revert ae;simp only[bj,aN];repeat' split
  all_goals(intro ae;cases ae)
 | makeMap t r=>cases r<;>simp[bj,aN]at ae
 | makeSlice t l c =>
  exfalso;revert ae;simp only[bj,aN];repeat' split
  all_goals(intro ae;cases ae)
 | slice t x lo hi gM=>simp only[bj,aN]at ae;exact absurd ae flag
 | fieldAddr s x qc=>simp only[bj,aN]at ae;exact absurd ae flag
 | field s x qc =>
  simp only[bj,aN]at ae
  split at ae
  ·exact absurd ae flag
  ·simp at ae
 | indexAddr t x ix=>simp only[bj,aN]at ae;exact absurd ae flag
 | index t x ix=>simp only[bj,aN]at ae;exact absurd ae flag
 | lookup t x ix ok=>simp only[bj,aN]at ae;exact absurd ae flag
 | mapUpdate t m k x=>simp only[bj,aN]at ae;exact absurd ae Rn
 | insert t m k x=>simp only[bj,aN]at ae;exact absurd ae Rn
 | extract x i =>
  simp only[bj,aN]at ae
  split at ae
  ·split at ae<;>simp at ae
  ·exact absurd ae flag
  ·simp at ae
 | _=>simp[bj,aN]at ae
theorem W7{o:Oper}{r:g4}(ae:bj P pol f ρ h o=some r):∀ c,o.op≠.defer c:=by
 intro c af
 simp[bj,af]at ae
def Marks(M:sX)(w:World)(ds:List Deferred):Prop :=
 ∃ rs:List Nat,ds=rs.map (fun r=>{ target:=.collected r,args:=#[] })++M.2∧rs.Nodup∧∀ r∈rs,M.1≤r∧w.heap[r]? = some (.deferred (some []))
theorem Marks.mono{ds:List Deferred}(hm:Marks M w ds)(U:Ext D β w a5 a4 w'):Marks M w' ds:=by
 obtain⟨rs,ad,ag,aJ⟩:=hm
 exact⟨rs,ad,ag,fun r al=>⟨(aJ r al).1,U.defs r _ (aJ r al).2⟩⟩
theorem Marks.nil{n:Nat}:Marks (n,[]) w []:=⟨[],rfl,.nil,by simp⟩
structure St[cf](pol:c4)(Z:hG)(M:sX)(D:c8)(β:dt)(h:aj)(w:World)(ro:Option Nat)(a:Act)(env:Env):Prop where
 inv:Inv Z D β h w
 env:g3 D β w a.tmps env
 gK:hH pol D w
 marks:Marks M w a.defers
 round:∀ l,ro=some l→∃ L,w.heap[l]? = some (.loop L)
theorem St.rep[cf]{a:Act}{env:Env}(J:St pol Z M D β h w ro a env)(x:Operand):bf D β w (a.eval x) (g7 pol env x):=GR J.env J.gK x
theorem St.next[cf]{a:Act}{env:Env}(J:St pol Z M D β h w ro a env)(U:Ext D β w a5 a4 w')(hi:Inv Z a5 a4 ai w'){v:Value}{x:ah}(al:bf a5 a4 w' v x)(dst:Option Tmp) :
  St pol Z M a5 a4 ai w' ro (a.put dst v) (put env dst x) where
 inv:=hi
 env:=(J.env.mono U).put dst al
 gK:=J.gK.mono U
 marks:=by rw[tS];exact J.marks.mono U
 round l ao:=let⟨L,eL⟩:=J.round l ao;U.loops l L eL
theorem Inv.fresh[cf](hi:Inv Z D β h w):∀ o e,h.length≤o→β o e=none:=by
 intro o e ad
 cases ab:β o e with
 | none=>rfl
 | some y=>exact absurd (hi.kk o e y ab) (by omega)
theorem Inv.done[cf]{tch:List Nat}(hi:Inv Z D β h w)(aI:hd (ep tch h ai) D β w a5 a4 w')(ay:er Z a5 a4 w')(mi:∀(o:Nat) x,ep tch h ai o→ai[o]? = some x→e5 a5 a4 w' o x)
  (ts:∀ o e y,a4 o e=some y→(∃ bs od,β o bs=some od)∨o<ai.length) (uT:∀ o,¬ ep tch h ai o→ai[o]? = h[o]?) (ao:h.length≤ai.length):Inv Z a5 a4 ai w':=by
 refine hi.step ay aI uT mi ao fun o e y _ ar=>?_
 rcases ts o e y ar with⟨bs,od,pS⟩|h
 ·exact w7 (hi.kk o bs od pS) ao
 ·exact h
theorem Good.parts[cf]{tch:List Nat}{v:ah}{r:Result Next}(ay:Good Z D β w h ai tch v r):lC Z D β w ai (ep tch h ai) v r∧(∀ o,¬ ep tch h ai o→ai[o]? = h[o]?)∧h.length≤ai.length:=ay
theorem Inv.kept[cf](hi:Inv Z D β h w)(an:sU w w'):Inv Z (wk D w w') β h w':=by
 obtain⟨aI,ay⟩:=Yx (S:=fun _=>False) an hi.g
 exact hi.step ay aI (fun _ _=>rfl) (fun _ _ h=>h.elim) (bP _) (fun _ _ _ h=>h.elim)
theorem ade[cf]{p:Nat→Bool}{args:List ah}{aq:List T}{vs:List Value}(b4:∀(o:Nat) x,p o=true→h[o]? = some x→e5 D β w o x)(hm:b5 (snap h p 20) args=some aq)(al:ir D β w vs args) :
  vs.toArray.size=aq.length∧∀(i:Nat) v t,vs.toArray[i]? = some v→aq[i]? = some t→eO (iy D β p) w v t:=by
 obtain⟨ad,ag⟩:=sE hm
 refine⟨by simp[al.1,ad],fun i v t az ax=>?_⟩
 have fz:i<args.length:=by rw[ad];exact(cD.1 ax).1
 have U:args[i]? = some args[i]:=by simp[fz]
 exact CM b4 (fun b ab=>.inl ab) (fun o e b k av ab=>.inr ⟨o,e,k,av,ab⟩) 20 _ v t (ag i _ t U ax) (al.2 i v _ (by simpa using az) U)
theorem atv[cf]{args:List ah}{aq:List T}{vs:List Value}(hi:Inv Z D β h w)(hm:b5 (snap h ez 20) args=some aq)(al:ir D β w vs args) :
  vs.toArray.size=aq.length∧∀(i:Nat) v t,vs.toArray[i]? = some v→aq[i]? = some t→eO (iy D β ez) w v t :=
 ade (fun o x _ U=>hi.obj o x U) hm al
theorem adY{o:Oper}{a:Act}{next:Act→World→Prop}{Q:Exit→Act→World→Prop}{g:FuncId}{args:List ah}{aq:List T}{r:T}(dD:l2 P pol K)(ae:bj P pol f ρ h o=some (.call (.fn g) args))
  (dI:e6 args=some aq) (al:K g aq=some r) (aF:∀ b,D b→b<w.heap.size) (eT:hH pol D w) (dz:∀ x,bf D β w (a.eval x) (ρ x))
  (aw:∀ v w',sU w w'→eO (wk D w w') w' v r→next (a.put o.dst v) w'):o.wpIn (fu ro) 0 P a w next Q:=by
 obtain⟨c,x,aC,af,gf⟩:=lJ ae
 obtain⟨d,j6,jL,jo,dT⟩:=Du (P:=P) gf (dz x) (Ji dz c.args.toList)
 obtain⟨dx,mW⟩:=dD g aq r al
 have e:=zg dI
 subst e
 have lj:c.args.map a.eval=(c.args.toList.map a.eval).toArray:=by apply vB;simp
 refine FJ aC af (by rw[lj];exact jL w) ((dT w).trans (yz dx _ w)) (mW w D j6.toArray aF eT (by simpa using jo.1) (fun i v t az ax=>?_)) (fun e w' bk=>?_)
 ·exact(jo.2 i v (.t t) (by simpa using az) (by simp[ax])).dN
 ·obtain⟨v,rfl,an,az⟩:=bk
  exact⟨v,rfl,aw v w' an az⟩
theorem e5.swap[cf]{p:Nat→Bool}{β1 β2:dt}{o:Nat}{x:a9}(aam:∀ e,β2 o e=β1 o e)(qs:∀ o e y,p o=false→β1 o e=some y→β2 o e=some y)(ae:zm p x=true)(U:e5 D β1 w o x):e5 D β2 w o x:=by
 cases x with
 | gone=>trivial
 | row k elems aG =>
  refine⟨U.1,fun e b bg ab=>?_⟩
  rw[aam]at ab
  obtain⟨ad,ag,aJ,bL⟩:=U.2 e b bg ab
  refine⟨ad,ag,aJ,fun hm=>?_⟩
  obtain⟨c,ty,a3,a7,cz⟩:=bL hm
  refine⟨c,ty,a3,a7,fun i x j t hi U ax=>?_⟩
  obtain⟨v,az,an,al⟩:=cz i x j t hi U ax
  exact⟨v,az,an,A5 (p:=p) (fun _ h=>h) qs al (Xl (A4 (by simpa[zm]using ae) U) ax)⟩
 | map es =>
  intro e b k ab
  rw[aam]at ab
  obtain⟨bo,cR,mes,clock,ad,ag,mh,aJ⟩:=U e b k ab
  refine⟨bo,cR,mes,clock,ad,ag,mh,fun i m dF hm an=>⟨(aJ i m dF hm an).1,A5 (p:=p) (fun _ h=>h) qs (aJ i m dF hm an).2 ?_⟩⟩
  have:=jY.1 (by simpa only[zm]using ae) dF (gp an)
  exact this
 | loop f env params assign body busy pending=>simp[zm]at ae
theorem ahl{p:Nat→Bool}:∀ {l:List a9},oQ p l=true→∀ {i:Nat} {x:a9},l[i]? = some x→zm p x=true:=by
 intro l
 induction l with
 | nil=>intro _ i x U;simp at U
 | cons y l au =>
  intro ae i x U
  simp only[oQ,fe]at ae
  cases i with
  | zero=>simp at U;subst U;exact ae.1
  | succ i=>exact au ae.2 (by simpa using U)
def CY[cf](pol:c4)(Z:hG)(D:c8)(β:dt)(w:World)(n:Nat)(v:ah)(ag:aj)(bU:Value)(w':World)(a5:c8)(a4:dt):Prop :=
 bf a5 a4 w' bU v∧hd (fun o=>n≤o∧o<ag.length) D β w a5 a4 w'∧er Z a5 a4 w'∧(∀(o:Nat) x,n≤o→ag[o]? = some x→e5 a5 a4 w' o x) ∧
  (∀ o e y,a4 o e=some y→(∃ bs od,β o bs=some od)∨o<ag.length)∧hH pol a5 w'
theorem Yv[cf]{g:FuncId}{args:List ah}{aq:List T}{v:ah}{ag:aj}{n:Nat}(bK:j9 P pol I)(dT:alive (I (.fn g) args (List.replicate n .gone))=some (v,ag))(dI:e6 args=some aq)(gX:cL (kB n) v=true)
  (iA:oQ (kB n) (ag.drop n)=true) (ay:er Z D β w) (eT:hH pol D w) (Ho:∀ o e,n≤o→o<ag.length→β o e=none) {vs:List Value} (al:ir D β w vs args) :
  AH P g∧CallsIn Fence.wide 0 P g vs.toArray w (fun e w'=>∃ bU,e=.returned bU∧∃ a5 a4,CY pol Z D β w n v ag bU w' a5 a4):=by
 have e:=zg dI
 subst e
 obtain⟨dx,mW⟩:=bK.live dT
 refine⟨dx,?_⟩
 have qi:er ⟨w.heap.size,w,D⟩ D (fun _ _=>none) w:=⟨bP _,fun _ _=>rfl,rfl,rfl,ay.hV,fun _ h _=>h,fun _ _ _ _ h=>(by cases h),fun _ _ _ _ _ _ _ h=>(by cases h),fun b ds ab bG=>absurd (lU ab) (by show ¬ _;exact Nat.not_lt.2 bG)⟩
 have kY:Inv ⟨w.heap.size,w,D⟩ D (fun _ _=>none) (List.replicate n .gone) w:=⟨qi,(by
  intro o x U
  rw[s7]at U
  split at U
  ·cases U;trivial
  ·cases U),fun o e y h=>(by cases h)⟩
 have k1:ir D (fun _ _=>none) w vs (aq.map .t):=⟨al.1,fun i v x az U=>by
  have:=al.2 i v x az U
  rw[eE,mH]at U
  obtain⟨t,_,rfl⟩:=U
  exact .t _ _ this.dN⟩
 refine CallsIn.mono (mW _ _ _ w vs kY eT k1) fun e w' av=>?_
 obtain⟨bU,rfl,a5,a4,fz,ank,dM,su⟩:=av
 refine⟨bU,rfl,a5,fun o e=>if n≤o∧o<ag.length then a4 o e else β o e,?_⟩
 have dy:∀ b,b<w.heap.size→w'.heap[b]? = w.heap[b]?:=fz.g.dy
 have Us:∀ b,b<w.heap.size→a5 b→D b:=fun b ab aF=>fz.g.lM b aF ab
 have blt:∀ o e b k,a4 o e=some (b,k)→w.heap.size≤b∧b<w'.heap.size:=fz.g.blt
 have qs:∀ o e y,kB n o=false→a4 o e=some y→(if n≤o∧o<ag.length then a4 o e else β o e)=some y:=by
  intro o e y aC ab
  have ad:n≤o:=by simp[kB]at aC;exact aC
  rw[a6 ⟨ad,fz.kk o e y ab⟩]
  exact ab
 have cs:∀ {o e y},(if n≤o∧o<ag.length then a4 o e else β o e)=some y→((n≤o∧o<ag.length)∧a4 o e=some y)∨(¬ (n≤o∧o<ag.length)∧β o e=some y):=by
  intro o e y h
  split at h
  ·rename_i af;exact .inl ⟨af,h⟩
  ·rename_i af;exact .inr ⟨af,h⟩
 have anb:Ext D β w a5 (fun o e=>if n≤o∧o<ag.length then a4 o e else β o e) w':={ dM with
  oR:=fun o e x h=>by
   show(if n≤o∧o<ag.length then a4 o e else β o e)=some x
   rw[a2 (fun af=>by rw[Ho o e af.1 af.2]at h;cases h)]
   exact h }
 refine⟨A5 (fun _ h=>h) qs su gX,⟨anb,fun o e b k aC ab=>?_,fun o e aC=>by show(if n≤o∧o<ag.length then a4 o e else β o e)=_;rw[a2 aC]⟩,?_,?_,?_,ank⟩
 ·have:=(ay.blt o e b k ab).2
  exact⟨dy b this,Us b this⟩
 ·have dn:w.heap.size≤w'.heap.size:=dM.size
  refine⟨by have:=ay.jS;omega,fun b ab=>(dy b (by have:=ay.jS;omega)).trans (ay.dy b ab),fz.g.os.trans ay.os,fz.g.out.trans ay.out,fz.g.hV,fun b ab ao=>ay.lM b (Us b (by have:=ay.jS;omega) ab) ao,fun o e b k ab=>?_,?_,?_⟩
  ·rcases cs ab with⟨_,ab⟩|⟨_,ab⟩
   ·have ad:=blt o e b k ab
    have ag:=ay.jS
    exact⟨by omega,ad.2⟩
   ·have ad:=ay.blt o e b k ab
    exact⟨ad.1,by omega⟩
  ·intro o e b k cC bs bg ab cS
   rcases cs ab with⟨_,ab⟩|⟨_,ab⟩<;>rcases cs cS with⟨_,cS⟩|⟨_,cS⟩
   ·exact fz.g.inj _ _ _ _ _ _ _ ab cS
   ·have:=blt _ _ _ _ ab;have:=ay.blt _ _ _ _ cS;omega
   ·have:=blt _ _ _ _ cS;have:=ay.blt _ _ _ _ ab;omega
   ·exact ay.inj _ _ _ _ _ _ _ ab cS
  ·intro b ds ab bG
   by_cases aB:b<w.heap.size
   ·rw[dy b aB]at ab
    obtain⟨a3,a7⟩:=ay.eU b ds ab bG
    refine⟨fun aF=>a3 (Us b aB aF),fun o e k an=>?_⟩
    rcases cs an with⟨_,an⟩|⟨_,an⟩
    ·have:=blt _ _ _ _ an;omega
    ·exact a7 o e k an
   ·obtain⟨a3,a7⟩:=fz.g.eU b ds ab (by show w.heap.size≤b;omega)
    refine⟨a3,fun o e k an=>?_⟩
    rcases cs an with⟨_,an⟩|⟨_,an⟩
    ·exact a7 o e k an
    ·have:=ay.blt _ _ _ _ an;omega
 ·intro o x fg U
  have aB:o<ag.length:=(cD.1 U).1
  refine e5.swap (p:=kB n) (β1:=a4) (fun e=>by show(if n≤o∧o<ag.length then a4 o e else β o e)=_;rw[a6 ⟨fg,aB⟩]) qs ?_ (fz.obj o x U)
  refine ahl iA (i:=o-n) ?_
  rw[nF,show n+(o-n)=o by omega]
  exact U
 ·intro o e y ar
  rcases cs ar with⟨af,_⟩|⟨_,ar⟩
  ·exact .inr af.2
  ·exact .inl ⟨e,y,ar⟩
theorem Nu:∀ {l:List ah},qF l=true→∀ {i:Nat} {x:ah},l[i]? = some x→kK x=true:=by
 intro l
 induction l with
 | nil=>intro _ i x U;simp at U
 | cons y l au =>
  intro ae i x U
  simp only[qF,fe]at ae
  cases i with
  | zero=>simp at U;subst U;exact ae.1
  | succ i=>exact au ae.2 (by simpa using U)
theorem avk:∀ {l:List a9},np l=true→∀ {i:Nat} {x:a9},l[i]? = some x→x=.gone∨∃ k es aG,x=.row k es aG∧qF es=true:=by
 intro l
 induction l with
 | nil=>intro _ i x U;simp at U
 | cons y l au =>
  intro ae i x U
  cases y with
  | row k es aG =>
   simp only[np,fe]at ae
   cases i with
   | zero=>simp at U;subst U;exact .inr ⟨k,es,aG,rfl,ae.1⟩
   | succ i=>exact au ae.2 (by simpa using U)
  | gone =>
   simp only[np]at ae
   cases i with
   | zero=>simp at U;subst U;exact .inl rfl
   | succ i=>exact au ae (by simpa using U)
  | map es=>simp[np]at ae
  | loop f e p a b c d=>simp[np]at ae
theorem adN{v:Value}{x:ah}(av:kK x=true)(al:bf D β w v x):bf a5 β w v x:=by
 induction al with
 | t v x U=>exact .t v x (adO (by simpa[kK]using av) U)
 | agg cs aq ao _ au=>exact .agg cs aq ao (fun i v t az ax=>au i v t az ax (Nu (by simpa only[kK]using av) ax))
 | ch cs aq ao _ au=>exact .ch cs aq ao (fun i v t az ax=>au i v t az ax (Nu (by simpa only[kK]using av) ax))
 | fn f a b x y ad ag _ _ tF qu=>simp[kK]at av
 | ref o e i off b k ab=>exact .ref o e i off b k ab
 | k5 a o e i k clip bo=>exact .k5 a o e i k clip bo
 | ms o e i len k clip b cap n ab hle fF gu aw dn hex=>exact .ms o e i len k clip b cap n ab hle fF gu aw dn hex
 | mp o b k ab=>exact .mp o b k ab
 | bF o b k ab=>exact .bF o b k ab
 | dead v=>exact .dead v
theorem avl{x:ah}(av:kK x=true){j:Nat}{c:ah}(af:x.cells[j]? = some c):kK c=true:=by
 cases x with
 | t y =>
  rw[yG,eE,mH]at af
  obtain⟨u,hu,rfl⟩:=af
  simp only[kK]at av ⊢
  cases y with
  | agg cs =>
   have hm:=jY.1 (by simpa only[T.plain]using av) u (gp (by simpa[T.cells]using hu))
   cases u<;>simp at hm
   rfl
  | _ =>
   cases j with
   | zero=>simp[T.cells]at hu;subst hu;exact av
   | succ j=>simp[T.cells]at hu
 | agg cs=>exact Nu (l:=cs) (by simpa only[kK]using av) af
 | dead=>simp[ah.cells]at af
 | _ =>
  cases j with
  | zero=>simp[ah.cells]at af;subst af;exact av
  | succ j=>simp[ah.cells]at af
theorem CY.back[cf]{jV:c8}{n:Nat}{v:ah}{ag:aj}{bU:Value}(J:∀ b,D b→jV b)(eT:hH pol D w)(ay:er Z D β w)(kI:kK v=true)(lP:np (ag.drop n)=true)(av:CY pol Z jV β w n v ag bU w' a5 a4):CY pol Z D β w n v ag bU w' D a4:=by
 obtain⟨cP,dc,fi,sK,ks,_⟩:=av
 have U:Ext D β w D a4 w':={ dc.ext with sub:=fun _ h=>h,same:=fun b h=>dc.ext.same b (J b h) }
 refine⟨adN kI cP,⟨U,fun o e b k aC ab=>⟨(dc.bQ o e b k aC ab).1,fun h=>h⟩,dc.iQ⟩,?_,?_,ks,eT.mono U⟩
 ·exact{ fi with hV:=fun b ab=>fi.hV b (dc.ext.sub b (J b ab)),lM:=ay.lM,eU:=fun b ds ab bG=>let⟨a3,a7⟩:=fi.eU b ds ab bG;⟨fun aF=>a3 (dc.ext.sub b (J b aF)),a7⟩ }
 ·intro o x fg k3
  have aC:=sK o x fg k3
  rcases avk lP (i:=o-n) (x:=x) (by rw[nF,show n+(o-n)=o by omega];exact k3)with rfl|⟨k,es,aG,rfl,he⟩
  ·trivial
  ·refine⟨aC.1,fun e b bg ab=>?_⟩
   obtain⟨a3,a7,cz,eJ⟩:=aC.2 e b bg ab
   refine⟨fun aF=>a3 (dc.ext.sub b (J b aF)),a7,cz,fun hm=>?_⟩
   obtain⟨c,ty,b9,b3,cG⟩:=eJ hm
   refine⟨c,ty,b9,b3,fun i y j t hi ar ax=>?_⟩
   obtain⟨u,hu,an,al⟩:=cG i y j t hi ar ax
   exact⟨u,hu,an,adN (avl (Nu he ar) ax) al⟩
theorem KZ{x:Option (ah × aj)}{v:ah}{ai:aj}(aI:vI h x=some (v,ai)):∃ ag,x=some (v,ag)∧h.length≤ag.length∧cL (kB h.length) v=true∧oQ (kB h.length) (ag.drop h.length)=true∧ai=h++ag.drop h.length:=by
 cases x with
 | none=>simp[vI]at aI
 | some y =>
  obtain⟨v1,ag⟩:=y
  simp only[vI]at aI
  split at aI
  ·rename_i af
   simp only[fe,ho]at af
   simp only[Option.some.injEq,Prod.mk.injEq]at aI
   obtain⟨rfl,rfl⟩:=aI
   exact⟨ag,rfl,af.1.1,af.1.2,af.2,rfl⟩
  ·simp at aI
theorem Qn{x:Option (ah × aj)}{v:ah}{ai:aj}(aI:vJ h x=some (v,ai)):∃ ag,x=some (v,ag)∧h.length≤ag.length∧cL (kB h.length) v=true∧oQ (kB h.length) (ag.drop h.length)=true∧kK v=true∧np (ag.drop h.length)=true∧ai=h++ag.drop h.length:=by
 cases x with
 | none=>simp[vJ]at aI
 | some y =>
  obtain⟨v1,aJ⟩:=y
  simp only[vJ]at aI
  split at aI
  ·rename_i af
   rw[fe]at af
   obtain⟨ag,e,ad,bL,dC,fQ⟩:=KZ aI
   cases e
   exact⟨_,rfl,ad,bL,dC,af.1,af.2,fQ⟩
  ·simp at aI
theorem agU:∀ aq:List T,e6 (aq.map .t)=some aq:=by
 intro aq
 induction aq with
 | nil=>rfl
 | cons t aq au=>simp[e6,au]
theorem Yu[cf]{o:Oper}{a:Act}{next:Act→World→Prop}{Q:Exit→Act→World→Prop}{g:FuncId}{args:List ah}{aq:List T}{v:ah}{ag:aj}{n:Nat}(bK:j9 P pol I)(ae:bj P pol f ρ h o=some (.call (.fn g) args))
  (dI:e6 args=some aq) (dT:alive (I (.fn g) args (List.replicate n .gone))=some (v,ag)) (gX:cL (kB n) v=true) (iA:oQ (kB n) (ag.drop n)=true) (ay:er Z D β w) (eT:hH pol D w) (dz:∀ x,bf D β w (a.eval x) (ρ x))
  (Ho:∀ o e,n≤o→o<ag.length→β o e=none) (aw:∀ bU w' a5 a4,CY pol Z D β w n v ag bU w' a5 a4→next (a.put o.dst bU) w'):o.wpIn (fu ro) 0 P a w next Q:=by
 obtain⟨c,x,aC,af,gf⟩:=lJ ae
 obtain⟨d,j6,jL,jo,uS⟩:=Du (P:=P) gf (dz x) (Ji dz c.args.toList)
 have lj:c.args.map a.eval=(c.args.toList.map a.eval).toArray:=by apply vB;simp
 obtain⟨dx,mW⟩:=Yv bK dT dI gX iA ay eT Ho jo
 refine FJ aC af (by rw[lj];exact jL w) ((uS w).trans (yz dx _ w)) mW (fun e w' bk=>?_)
 obtain⟨bU,rfl,a5,a4,av⟩:=bk
 exact⟨bU,rfl,aw bU w' a5 a4 av⟩
theorem Yt[cf]{o:Oper}{a:Act}{next:Act→World→Prop}{Q:Exit→Act→World→Prop}{g:FuncId}{args:List ah}{aq:List T}{v:ah}{ag:aj}{n:Nat}{p:Nat→Bool}(bK:j9 P pol I)(ae:bj P pol f ρ h o=some (.call (.fn g) args))
  (dI:b5 (snap h p 20) args=some aq) (b4:∀(o:Nat) x,p o=true→h[o]? = some x→e5 D β w o x) (dT:alive (I (.fn g) (aq.map .t) (List.replicate n .gone))=some (v,ag)) (gX:cL (kB n) v=true) (iA:oQ (kB n) (ag.drop n)=true)
  (kI:kK v=true) (lP:np (ag.drop n)=true) (ay:er Z D β w) (eT:hH pol D w) (dz:∀ x,bf D β w (a.eval x) (ρ x))
  (Ho:∀ o e,n≤o→o<ag.length→β o e=none) (aw:∀ bU w' a5 a4,CY pol Z D β w n v ag bU w' a5 a4→next (a.put o.dst bU) w'):o.wpIn (fu ro) 0 P a w next Q:=by
 obtain⟨c,x,aC,af,gf⟩:=lJ ae
 obtain⟨d,j6,jL,jo,uS⟩:=Du (P:=P) gf (dz x) (Ji dz c.args.toList)
 have lj:c.args.map a.eval=(c.args.toList.map a.eval).toArray:=by apply vB;simp
 obtain⟨dn,gC⟩:=ade b4 dI jo
 have Bt:hH pol (iy D β p) w:=⟨fun g x U=>(eT.rep g x U).mono (fun b ab=>.inl ab) (fun _ _=>rfl),fun g aq h=>let⟨aF,r⟩:=eT.row g aq h;⟨.inl aF,r⟩⟩
 obtain⟨dx,mW⟩:=Yv (vs:=j6) bK dT (agU aq) gX iA (ay.iy p) Bt Ho (by simpa using Cu (β:=β) dn gC)
 refine FJ aC af (by rw[lj];exact jL w) ((uS w).trans (yz dx _ w)) mW (fun e w' bk=>?_)
 obtain⟨bU,rfl,a5,a4,av⟩:=bk
 exact⟨bU,rfl,aw bU w' _ a4 (av.back (fun b h=>.inl h) eT ay kI lP)⟩
theorem YC[cf]{o:Oper}{a:Act}{next:Act→World→Prop}{Q:Exit→Act→World→Prop}{g:sY}{args:List ah}{v:ah}(dD:l2 P pol K)(bK:j9 P pol I)(ae:bj P pol f ρ h o=some (.call g args))
  (ey:iw pol K I f (o.dst.getD 0) g args h=some (v,ai)) (hi:Inv Z D β h w) (eT:hH pol D w) (dz:∀ x,bf D β w (a.eval x) (ρ x))
  (aw:∀ bU w' a5 a4,bf a5 a4 w' bU v→Inv Z a5 a4 ai w'→Ext D β w a5 a4 w'→next (a.put o.dst bU) w'):o.wpIn (fu ro) 0 P a w next Q:=by
 obtain⟨c,x,aC,af,gf⟩:=lJ ae
 obtain⟨d,j6,jL,jo,dT⟩:=Du (P:=P) gf (dz x) (Ji dz c.args.toList)
 have lj:c.args.map a.eval=(c.args.toList.map a.eval).toArray:=by apply vB;simp
 have DZ:(Deferred.ofValue (a.eval x) (c.args.map a.eval)).run P w=.ok d w:=by rw[lj];exact jL w
 have post:∀ e w',yU pol Z D β w v ai e w'→∃ bU,e=.returned bU∧next (a.put o.dst bU) w':=by
  rintro e w' ⟨bU,rfl,a5,a4,ad,ag,aJ,bL⟩
  exact⟨bU,rfl,aw bU w' a5 a4 bL ad aJ⟩
 cases g with
 | bF l =>
  simp only[iw]at ey
  obtain⟨b,k,ab,dT⟩:=dT
  obtain⟨g,tmps,assign,body,ar,aop⟩:=bK.bF l args h v ai ey Z D β w j6 b k hi eT jo ab
  exact aA6 aC af DZ ((dT w).trans ar) aop post
 | fn g =>
  have aAE:alive (I (.fn g) args h)=some (v,ai)→o.wpIn (fu ro) 0 P a w next Q:=by
   intro fz
   obtain⟨dx,mW⟩:=bK.live fz
   exact FJ aC af DZ ((dT w).trans (yz dx _ w)) (mW Z D β w j6 hi eT jo) post
  simp only[iw]at ey
  split at ey
  ·obtain⟨dx,mW⟩:=bK.trim ey
   exact FJ aC af DZ ((dT w).trans (yz dx _ w)) (mW Z D β w j6 hi eT jo) post
  ·split at ey
   ·rename_i aq dI
    split at ey
    ·obtain⟨ag,dT,ao,gX,iA,rfl⟩:=KZ ey
     refine Yu bK ae dI dT gX iA hi.g eT dz (fun o e ad _=>hi.fresh o e ad) fun bU w' a5 a4 av=>?_
     obtain⟨cP,dc,fi,sK,ks,_⟩:=av
     have hlen:(h++ag.drop h.length).length=ag.length:=by simp;omega
     refine aw bU w' a5 a4 cP (hi.done (tch:=[]) (dc.mono fun o aC=>.inr ⟨aC.1,by rw[hlen];exact aC.2⟩) fi (fun o x J U=>?_) (fun o e y ar=>by rw[hlen];exact ks o e y ar) (fun o J=>?_) (by simp)) dc.ext
     ·have aC:h.length≤o:=by
       rcases J with J|J
       ·cases J
       ·exact J.1
      refine sK o x aC ?_
      rw[g5 aC,nF,show h.length+(o-h.length)=o by omega]at U
      exact U
     ·by_cases aC:o<h.length
      ·rw[fv aC]
      ·have:¬ o<(h++ag.drop h.length).length:=fun af=>J (.inr ⟨by omega,af⟩)
       rw[kb (by omega),kb (by omega)]
    split at ey
    ·rename_i r al
     simp at ey
     obtain⟨rfl,rfl⟩:=ey
     refine adY dD ae dI al hi.g.hV eT dz (fun bU w' an az=>aw bU w' _ _ (.t _ _ az) (hi.kept an) (P9 an hi.g.hV))
    ·simp at ey
   ·split at ey
    ·split at ey
     ·rename_i aq dI
      obtain⟨ag,LH,ao,gX,iA,kI,lP,rfl⟩:=Qn ey
      refine Yt bK ae dI (fun o x _ U=>hi.obj o x U) LH gX iA kI lP hi.g eT dz (fun o e ad _=>hi.fresh o e ad) fun bU w' a5 a4 av=>?_
      obtain⟨cP,dc,fi,sK,ks,_⟩:=av
      have hlen:(h++ag.drop h.length).length=ag.length:=by simp;omega
      refine aw bU w' _ a4 cP (hi.done (tch:=[]) (dc.mono fun o aC=>.inr ⟨aC.1,by rw[hlen];exact aC.2⟩) fi (fun o x J U=>?_) (fun o e y ar=>by rw[hlen];exact ks o e y ar) (fun o J=>?_) (by simp)) dc.ext
      ·have aC:h.length≤o:=by
        rcases J with J|J
        ·cases J
        ·exact J.1
       refine sK o x aC ?_
       rw[g5 aC,nF,show h.length+(o-h.length)=o by omega]at U
       exact U
      ·by_cases aC:o<h.length
       ·rw[fv aC]
       ·have:¬ o<(h++ag.drop h.length).length:=fun af=>J (.inr ⟨by omega,af⟩)
        rw[kb (by omega),kb (by omega)]
     ·simp at ey
    split at ey
    ·rename_i aq dI
     split at ey
     ·rename_i r al
      split at ey
      ·rename_i av
       simp at ey
       obtain⟨rfl,rfl⟩:=ey
       obtain⟨dx,mW⟩:=dD g aq r al
       obtain⟨dn,gC⟩:=atv hi dI jo
       have Ll:∀ b,iy D β ez b→b<w.heap.size:=(hi.g.iy ez).hV
       have Bt:hH pol (iy D β ez) w:=⟨fun g x U=>(eT.rep g x U).mono (fun b ab=>.inl ab) (fun _ _=>rfl),fun g aq h=>let⟨aF,r⟩:=eT.row g aq h;⟨.inl aF,r⟩⟩
       refine FJ aC af DZ ((dT w).trans (yz dx _ w)) (mW w _ _ Ll Bt dn gC) (fun e w' bk=>?_)
       obtain⟨bU,rfl,an,az⟩:=bk
       exact⟨bU,rfl,aw bU w' _ _ (.t _ _ (adO av az)) (hi.kept an) (P9 an hi.g.hV)⟩
      ·simp at ey
     ·simp at ey
    ·exact aAE ey
theorem aeS[cf]{o:Oper}{env bz:Env}{a:Act}{next:Act→World→Prop}{Q:Exit→Act→World→Prop}(dD:l2 P pol K)(bK:j9 P pol I)(J:lK P pol K I f o env h=some (bz,ai))(aS:St pol Z M D β h w ro a env)
  (aw:∀ a5 a4 w' cb,St pol Z M a5 a4 ai w' ro cb bz→Ext D β w a5 a4 w'→next cb w'):o.wpIn (fu ro) 0 P a w next Q:=by
 have plain:∀ r v,bj P pol f (g7 pol env) h o=some r→nt r=some (v,ai)→bz=put env o.dst v→o.wpIn (fu ro) 0 P a w next Q:=by
  intro r v ae az he
  subst he
  obtain⟨aF,uT,ao⟩:=(Vf (ρr:=a.eval) ae az aS.inv.g aS.rep (fun o e ad _=>aS.inv.fresh o e ad) (fun cC y _ ar=>aS.inv.obj cC y ar)).parts
  refine afu (W7 ae) aF fun bU w' a5 a4 al aI ay mi ts=>?_
  exact aw a5 a4 w' _ (aS.next aI.ext (aS.inv.done aI ay mi ts uT ao) al o.dst) aI.ext
 unfold lK at J
 split at J
 ·rename_i v ag ae
  simp at J
  obtain⟨rfl,rfl⟩:=J
  exact plain _ v ae rfl rfl
 ·rename_i ag ae
  simp at J
  obtain⟨rfl,rfl⟩:=J
  exact plain _ _ ae rfl rfl
 ·rename_i g args ae
  split at J
  ·rename_i v ag af
   simp at J
   obtain⟨rfl,rfl⟩:=J
   exact YC dD bK ae af aS.inv aS.gK aS.rep fun bU w' a5 a4 al hi U=>aw a5 a4 w' _ (aS.next U hi al o.dst) U
  ·simp at J
 ·simp at J
theorem St.freeze[cf]{os:List Nat}{env bz:Env}{a:Act}(aS:St pol Z M D β h w ro a env)(aI:freeze os env h=some (bz,ai)):∃ D2,St pol Z M D2 β ai w ro a bz∧Ext D β w D2 β w:=by
 obtain⟨D2,ad,ag,aJ,_⟩:=alc aI aS.inv
 exact⟨D2,⟨ad,ag _ aS.env,aS.gK.sub aJ,aS.marks,aS.round⟩,⟨aJ,fun _ _=>rfl,fun _ _ _ h=>h,fun _ _ h=>h,fun _ _ h=>h,fun _ L h=>⟨L,h⟩,bP _⟩⟩
theorem aeT[cf]{o:Oper}{env bz:Env}{a:Act}{next:Act→World→Prop}{Q:Exit→Act→World→Prop}(dD:l2 P pol K)(bK:j9 P pol I)(J:nI P pol K I f o env h=some (bz,ai))(aS:St pol Z M D β h w ro a env)
  (aw:∀ a5 a4 w' cb,St pol Z M a5 a4 ai w' ro cb bz→Ext D β w a5 a4 w'→next cb w'):o.wpIn (fu ro) 0 P a w next Q:=by
 unfold nI at J
 split at J
 ·split at J
  ·rename_i hx ag aI
   obtain⟨D2,vZ,U⟩:=aS.freeze aI
   exact aeS dD bK J vZ fun a5 a4 w' cb ad ag=>aw a5 a4 w' cb ad (U.trans ag)
  ·simp at J
 ·exact aeS dD bK J aS aw
theorem DN{ops:Array Oper}{env:Env}{a:Act}{Qx:Option (Nat × Bool)}{b:Bool}{o:Oper}(aC:o.guard=Qx)(ay:mN ops.toList env Qx=some b)(he:g3 D β w a.tmps env):Region.wanted o (yielded ops a.tmps)=b:=by
 unfold Region.wanted
 rw[aC]
 cases Qx with
 | none=>simp[mN]at ay;subst ay;rfl
 | some IN =>
  obtain⟨j,wT⟩:=IN
  simp only[mN,s8]at ay
  split at ay
  ·rename_i cC gv
   split at ay
   ·rename_i d aF
    have az:env.getD d .dead≠.dead→∃ v,a.tmps[d]? = some v∧bf D β w v (env.getD d .dead):=by
     intro eo
     by_cases ao:d<env.length
     ·have ad:env[d]? = some env[d]:=by simp[ao]
      have ag:a.tmps[d]? = some (a.tmps[d]'(by rw[he.1];exact ao)):=by simp
      refine⟨_,ag,?_⟩
      rw[qU,ad]
      exact he.2 d _ _ ag ad
     ·rw[qU,kb (Pf ao)]at eo
      exact absurd rfl eo
    simp only[yielded,gv,AP,aF]
    split at ay
    ·rename_i bS ab
     obtain⟨v,ad,ag⟩:=az (by rw[ab];simp)
     rw[ab]at ag
     obtain⟨rfl,_⟩:=ag.dN.fS
     simp at ay
     subst ay
     simp only[ad]
     cases bS<;>cases wT<;>rfl
    ·rename_i u hu ab
     obtain⟨v,ad,ag⟩:=az (by rw[ab];simp)
     rw[ab]at ag
     obtain⟨rfl,_⟩:=ag.dN.fS
     simp at ay
     subst ay
     simp only[ad]
     cases v with
     | bool q=>exact absurd rfl (hu q)
     | _=>cases wT<;>rfl
    ·simp at ay
   ·simp at ay
  ·simp at ay
theorem auI[cf]{ops:Array Oper}(dD:l2 P pol K)(bK:j9 P pol I){Q:Exit→Act→World→Prop}:∀(rest:List Oper) {Z:hG} {D:c8} {β:dt} {h ai:aj} {w:World} {env bz:Env} {a:Act},kc P pol K I f ops.toList rest env h=some (bz,ai)→St pol Z M D β h w ro a env →
  (∀ a5 a4 w' cb,St pol Z M a5 a4 ai w' ro cb bz→Ext D β w a5 a4 w'→Q .normal cb w')→wpListIn (fu ro) 0 P ops Q rest a w:=by
 intro rest
 induction rest with
 | nil =>
  intro Z D β h ai w env bz a J aS aw
  simp[kc]at J
  obtain⟨rfl,rfl⟩:=J
  exact aw D β w a aS (.refl D β w)
 | cons o rest au =>
  intro Z D β h ai w env bz a J aS aw
  simp only[kc]at J
  split at J
  ·rename_i b ab
   have hw:=DN rfl ab aS.env
   simp only[wpListIn,hw]
   cases b with
   | true =>
    simp only[cQ]at J ⊢
    split at J
    ·rename_i eg ad mn
     exact aeT dD bK mn aS fun a5 a4 w' cb hD dW=>au J hD fun ny oe m6 r7 m3 fo=>aw ny oe m6 r7 m3 (dW.trans fo)
    ·simp at J
   | false =>
    refine⟨fun _ _=>trivial,?_⟩
    simp at J
    exact au J (aS.next (.refl D β w) aS.inv FI o.dst) aw
  ·simp at J
theorem auW[cf]{o:Oper}{env:Env}{a:Act}{next:Act→World→Prop}{Q:Exit→Act→World→Prop}(bK:j9 P pol I)(J:qW P pol I f o env h=some ai)(aS:St pol Z M D β h w ro a env)
  (aw:∀ a5 a4 w' br,JR br→St pol Z M a5 a4 ai w' ro a env→Ext D β w a5 a4 w'→Q (.panic br) a w'):o.wpIn (fu ro) 0 P a w next Q:=by
 unfold qW at J
 split at J
 ·rename_i g args ae
  split at J
  ·split at J
   ·rename_i ag fz
    simp only[Option.some.injEq]at J
    subst J
    obtain⟨c,x,aC,af,gf⟩:=lJ ae
    obtain⟨d,j6,jL,jo,dT⟩:=Du (P:=P) gf (aS.rep x) (Ji aS.rep c.args.toList)
    have lj:c.args.map a.eval=(c.args.toList.map a.eval).toArray:=by apply vB;simp
    have DZ:(Deferred.ofValue (a.eval x) (c.args.map a.eval)).run P w=.ok d w:=by rw[lj];exact jL w
    obtain⟨dx,mW⟩:=bK.fn g args h .dead ag fz
    refine⟨fun _ _=>trivial,?_⟩
    rw[Oper.semAt_eq _ _ _ (by rw[aC];simp)]
    have hex:(execOp a.eval o).run P w=.ok (.enter g j6.toArray) w:=by
     simp only[execOp,aC,resolve,af,Sem.run_bind,DZ,Result.andThen,(dT w).trans (yz dx _ w)]
    rw[hex,Oper.uponIn_enter]
    refine⟨fun aF=>by simp[fu,Fence.wide]at aF,PJ (CallsIn.mono (mW Z D β w j6 aS.inv aS.gK jo) fun e w' bk=>?_)⟩
    rcases bk with⟨aF,_⟩|⟨_,br,lP,rfl,a5,a4,xI,tv,k3⟩
    ·exact absurd rfl aF
    ·exact aw a5 a4 w' br lP ⟨xI,aS.env.mono k3,tv,aS.marks.mono k3,fun l ao=>let⟨L,eL⟩:=aS.round l ao;k3.loops l L eL⟩ k3
   ·cases J
  ·cases J
 ·cases J
theorem Vz{env:Env}{o:Oper}{rest:List Oper}(h:yv P env o rest=true):∃ t x d h7 Fa ty,o.op=.makeInterface t x∧o.dst=some d∧o.guard=none∧rest=h7::Fa∧h7.op=.panic (.tmp d)∧h7.guard=none∧d<env.length∧dB P t=some ty∧∀ m,ty≠.interface m:=by
 unfold yv Kw at h
 split at h
 ·rename_i h7 Fa
  split at h
  ·rename_i t x d e ad ag aJ bL dC
   simp only[fe,AU,ho]at h
   obtain⟨⟨rfl,aB⟩,ax⟩:=h
   split at ax
   ·cases ax
   ·rename_i ty eo HH
    exact⟨t,x,d,h7,Fa,ty,ad,ag,aJ,rfl,bL,dC,aB,HH,fun m e=>eo m e⟩
   ·cases ax
  ·cases h
 ·cases h
theorem auY[cf]{ops:Array Oper}(dD:l2 P pol K)(bK:j9 P pol I){Q:Exit→Act→World→Prop}:∀(rest:List Oper) {Z:hG} {D:c8} {β:dt} {h ai:aj} {w:World} {env bz:Env} {a:Act},kd P pol K I f ops.toList rest env h=some (bz,ai)→St pol Z M D β h w ro a env →
  (∀ a5 a4 w' cb br,JR br→St pol Z M a5 a4 ai w' ro cb bz→Ext D β w a5 a4 w'→Q (.panic br) cb w')→wpListIn (fu ro) 0 P ops Q rest a w:=by
 intro rest
 induction rest with
 | nil=>intro Z D β h ai w env bz a J;simp[kd]at J
 | cons o rest au =>
  intro Z D β h ai w env bz a J aS aw
  simp only[kd]at J
  split at J
  ·rename_i al
   simp only[Option.some.injEq,Prod.mk.injEq]at J
   obtain⟨rfl,rfl⟩:=J
   obtain⟨t,x,d,h7,Fa,ty,aC,aF,ay,zM,ZR,tv,aB,HH,LA⟩:=Vz al
   subst zM
   have hw:=DN (ops:=ops) (b:=true) (o:=o) ay rfl aS.env
   simp only[wpListIn,hw,cQ]
   have g8:(execOp a.eval o).run P w=.ok (.value (.iface t (a.eval x))) w:=by
    simp only[execOp,aC,Instr.makeInterface,Sem.run_bind,run_underlying HH,Result.andThen]
    cases ty<;>first|(exact absurd rfl (LA _))|rfl
   refine⟨fun _ _=>trivial,?_⟩
   rw[Oper.semAt_eq _ _ _ (by rw[aC];simp),g8,Oper.uponIn_value]
   have Lo:g3 D β w (a.put o.dst (.iface t (a.eval x))).tmps (put env o.dst .dead):=aS.env.put o.dst (.dead _)
   have vZ:St pol Z M D β h w ro (a.put o.dst (.iface t (a.eval x))) (put env o.dst .dead):=⟨aS.inv,Lo,aS.gK,by rw[tS];exact aS.marks,aS.round⟩
   have nX:=DN (ops:=ops) (b:=true) (o:=h7) tv rfl Lo
   simp only[wpListIn,nX,cQ]
   refine⟨fun _ _=>trivial,?_⟩
   have xG:(a.put o.dst (.iface t (a.eval x))).eval (.tmp d)=.iface t (a.eval x):=by
    have dn:d<a.tmps.size:=by rw[aS.env.1];exact aB
    rw[aF]
    simp[Act.eval,Act.put,r6,yZ,dn]
   have o4:(execOp (a.put o.dst (.iface t (a.eval x))).eval h7).run P w=.halt (.panic (.iface t (a.eval x))) w:=by
    simp only[execOp,ZR,xG]
    rfl
   rw[Oper.semAt_eq _ _ _ (by rw[ZR];simp),o4]
   exact aw D β w _ _ ⟨_,_,rfl⟩ vZ (.refl D β w)
  ·split at J
   ·rename_i b ab
    have hw:=DN rfl ab aS.env
    simp only[wpListIn,hw]
    cases b with
    | true =>
     simp only[cQ]at J ⊢
     split at J
     ·rename_i ad av
      split at av
      ·cases av
      ·simp only[Option.some.injEq,Prod.mk.injEq]at J
       obtain⟨rfl,rfl⟩:=J
       exact auW bK av aS fun a5 a4 w' br sM st U=>aw a5 a4 w' a br sM st U
     ·split at J
      ·rename_i eg ad mn
       exact aeT dD bK mn aS fun a5 a4 w' cb hD dW=>au J hD fun ny oe m6 r7 br sM m3 fo=>aw ny oe m6 r7 br sM m3 (dW.trans fo)
      ·simp at J
    | false =>
     refine⟨fun _ _=>trivial,?_⟩
     simp at J
     exact au J (aS.next (.refl D β w) aS.inv FI o.dst) aw
   ·simp at J
end Go.Abs
/- The code of functions along the evaluator: sequences,branches,loops,ranges over functions. -/
namespace Go.Abs
open Go
variable{P:Program}{pol:c4}{K:eZ}{I:eY}{Z:hG}{D a5 D2:c8}{β a4 β2:dt}{w w':World}{h ai:aj}{ro:Option Nat}{M:sX}{f:FuncId}
def cW.is:cW→Exit→Prop
 | .normal,e=>e=.normal
 | .exit id,e=>e=.exit id
 | .ret,e=>e=.ret
 | .panic,e=>∃ br,JR br∧e=.panic br
def sT[cf](P:Program)(pol:c4)(K:eZ)(I:eY)(ok:List (Nat × Nat)→Array Oper→Bool):Prop :=
 ∀ {f:FuncId} {id:Nat} {ops:Array Oper} {Z:hG} {M:sX} {D:c8} {β:dt} {h ai:aj} {w:World} {ro:Option Nat} {env bz:Env} {a:Act} {aq:List (Option (List Nat))} {Q:Exit→Act→World→Prop},
  pD P pol K I f ops.toList ops.toList env h=some (bz,ai,aq)→nO (pol.fj f id) aq=true→ok (pol.fj f id) ops=true→St pol Z M D β h w ro a env →
  (∀ a5 a4 w' cb,St pol Z M a5 a4 ai w' ro cb bz→Ext D β w a5 a4 w'→Q .normal cb w')→∀ t,wpOpsIn (fu ro) 0 P ops Q (Region.schedule (P.follows .mixedOrders) ops t) a w
def codeOk(pol:c4)(ok:List (Nat × Nat)→Array Oper→Bool)(f:FuncId):Code→Bool
 | .region id ops true=>ok (pol.fj f id) ops
 | .seq a b=>codeOk pol ok f a && codeOk pol ok f b
 | .cond _ a b=>codeOk pol ok f a && codeOk pol ok f b
 | .rangeFunc _ _ a b=>codeOk pol ok f a && codeOk pol ok f b
 | .block _ c=>codeOk pol ok f c
 | .loop c=>codeOk pol ok f c
 | .scope c=>codeOk pol ok f c
 | _=>true
theorem Yg{n:Nat}(U:Ext D β w a5 a4 w')(ab:∀ o e y,β o e=some y→o<n)(J:∀ b,a5 b→D2 b)(ag:∀ o e y,o<n→a4 o e=some y→β2 o e=some y):Ext D β w D2 β2 w' :=
 { U with sub:=fun b h=>J b (U.sub b h),oR:=fun o e y ar=>ag o e y (ab o e y ar) (U.oR o e y ar) }
theorem St.shrink[cf]{n:Nat}{env bz:Env}{a:Act}(aS:St pol Z M D β h w ro a env)(J:shrink n env h=some (bz,ai)) :
  ∃ D2 β2,St pol Z M D2 β2 ai w ro a bz∧(∀ b,D b→D2 b)∧(∀ o e y,o<n→β o e=some y→β2 o e=some y):=by
 obtain⟨D2,β2,ad,ag,aJ,bL,_⟩:=aeD J aS.inv
 exact⟨D2,β2,⟨ad,ag _ aS.env,aS.gK.sub aJ,aS.marks,aS.round⟩,aJ,bL⟩
theorem St.tidy[cf]{live:Option (List Tmp)}{env:Env}{a:Act}(aS:St pol Z M D β h w ro a env):St pol Z M D β h w ro a (tidy live env) :=
 { aS with env:=N7 aS.env }
theorem aA7{F:Fence}{n:Nat}{c:Code}{Q:Exit→Act→World→Prop}{a:Act}(h:c.wpIn F n P (Exit.noGoto Q) a w):(Code.scope c).wpIn F n P Q a w:=by
 intro b k cs tD ab al
 have bE:step P (lone (b.atR a (.code (.scope c)::k)) cs w)=.next (lone (b.atR a (.code c::.inScope c::k)) cs w):=step_lone_go (by simp[stepG,stepG.exec,Frame.atR])
 have bo:(lone (b.atR a (.code (.scope c)::k)) cs w).fenced P F:=fenced_calm ab al rfl
 obtain⟨e,kf,kx,aE,mg⟩:=h b (.inScope c::k) cs tD ab al
 cases e with
 | normal =>
  have s1:step P (lone (b.atR kf (.inScope c::k)) cs kx)=.next (lone (b.atR kf k) cs kx):=step_lone_go (by simp[stepG,stepG.exec,Frame.atR])
  exact⟨.normal,kf,kx,aE,.head bo bE (StepsIn.trans mg (.one (fenced_calm ab al rfl) s1))⟩
 | exit id =>
  have U:exitTo id (.inScope c::k)=exitTo id k:=by simp[exitTo]
  exact⟨.exit id,kf,kx,aE,fun bg an=>.head bo bE (mg.1 bg (by rw[U];exact an)),fun su an=>let⟨k₁,ad,ag⟩:=mg.2 su (by rw[U];exact an);⟨k₁,ad,.head bo bE ag⟩⟩
 | goto l=>exact aE.elim
 | ret=>exact⟨_,kf,kx,aE,.of_steps (.one bo bE) mg⟩
 | panic br=>exact⟨_,kf,kx,aE,.of_steps (.one bo bE) mg⟩
 | outgrown=>exact⟨_,kf,kx,aE,.of_steps (.one bo bE) mg⟩
theorem arH[cf]{L:Loop}{env:Env}{tmps:Array Value}(hi:Inv Z D β h w)(he:g3 D β w tmps env)(af:cf.ok f L.assign∧cf.ok f L.body)(ax:L.tmps=tmps)(J:L.state=.ready)(av:L.pending=none) :
  Inv Z D (kR β h.length 0 w.heap.size 0) (h++[.loop f env L.params.toList L.assign L.body false none]) (w.alloc (.loop L))∧Ext D β w D (kR β h.length 0 w.heap.size 0) (w.alloc (.loop L)):=by
 have aw:∀ e,β h.length e=none:=fun e=>hi.fresh _ e (bP _)
 have f1:hd (fun o=>o=h.length) D β w D β (w.alloc (.loop L)):=Bi hi.g _
 have f2:hd (fun o=>o=h.length) D β (w.alloc (.loop L)) D (kR β h.length 0 w.heap.size 0) (w.alloc (.loop L)):=DJ rfl (aw 0)
 have cg:er Z D β (w.alloc (.loop L)):=hi.g.alloc _ (by simp)
 have c5:=cg.kR (o:=h.length) (e:=0) (b:=w.heap.size) (k:=0) hi.g.jS (by simp) (fun cC bs bg ab=>by have:=(hi.g.blt _ _ _ _ ab).2;omega) (fun ds U=>by rw[heap_alloc_new]at U;cases U)
 have f:=f1.trans f2
 refine⟨hi.step c5 f (fun o aC=>?_) (fun o x aC U=>?_) (by simp) (fun o e y aC _=>by subst aC;simp),f.ext⟩
 ·by_cases ao:o<h.length
  ·rw[fv ao]
  ·rw[kb (by simp;omega),kb (by omega)]
 ·subst aC
  rw[g5 (bP _)]at U
  simp at U
  subst U
  intro e b k ab
  rcases vC ab with⟨_,rfl,ar⟩|⟨ab,_⟩
  ·cases ar
   refine⟨rfl,fun aF=>absurd (hi.g.hV _ aF) (by omega),L,heap_alloc_new _,af,rfl,rfl,rfl,av,by simp[J],?_⟩
   rw[ax];exact he.mono f.ext
  ·rw[aw]at ab;cases ab
theorem Uu[cf]{l b k:Nat}{L L':Loop}{x:a9}(hi:Inv Z D β h w)(ab:β l 0=some (b,k))(cR:¬ D b)(eL:w.heap[b]? = some (.loop L))(U:e5 D β (w.putObj b (.loop L')) l x) :
  Inv Z D β (h.set l x) (w.putObj b (.loop L'))∧Ext D β w D β (w.putObj b (.loop L')):=by
 obtain⟨f,g⟩:=Qo (S:=fun o=>o=l) hi.g (y:=.loop L') rfl ab cR eL (by simp) (by simp) (by simp) (by simp) (fun L _=>⟨L',rfl⟩)
 refine⟨hi.step g f (fun o aC=>?_) (fun o y aC ar=>?_) (by simp) (fun o e y aC ar=>by simp;exact hi.kk o e y ar),f.ext⟩
 ·rw[iv (fun e=>aC e.symm)]
 ·subst aC
  rw[oO]at ar
  simp at ar
  obtain⟨_,rfl⟩:=ar
  exact U
theorem adZ[cf]{l b k:Nat}{L L':Loop}(hi:Inv Z D β h w)(ab:β l 0=some (b,k))(cR:¬ D b)(eL:w.heap[b]? = some (.loop L)):Ext D β w D β (w.putObj b (.loop L')) :=
 (Qo (S:=fun o=>o=l) hi.g (y:=.loop L') rfl ab cR eL (by simp) (by simp) (by simp) (by simp) (fun L _=>⟨L',rfl⟩)).1.ext
theorem GI[cf]{ok:List (Nat × Nat)→Array Oper→Bool}{n:Nat}(fq:∀ f c,cf.ok f c↔codeOk pol ok f c=true)(dD:l2 P pol K)(bK:j9 P pol I)(h3:sT P pol K I ok) :
  ∀(c:Code) {dd:Nat} {Z:hG} {M:sX} {D:c8} {β:dt} {h ai:aj} {w:World} {ro:Option Nat} {env bz:Env} {a:Act} {x:cW} {Q:Exit→Act→World→Prop},
   du P pol K I n f dd c env h=some (x,bz,ai)→codeOk pol ok f c=true→St pol Z M D β h w ro a env→M.1≤w.heap.size →
   (∀ a5 a4 w' cb e,x.is e→St pol Z M a5 a4 ai w' ro cb bz→Ext D β w a5 a4 w'→Q e cb w')→c.wpIn (fu ro) 0 P Q a w:=by
 intro c
 induction c with
 | skip =>
  intro dd Z M D β h ai w ro env bz a x Q J _ aS _ aw
  simp[du]at J
  obtain⟨rfl,rfl,rfl⟩:=J
  exact wpIn_skip (aw D β w a .normal rfl aS (.refl D β w))
 | label l =>
  intro dd Z M D β h ai w ro env bz a x Q J _ aS _ aw
  simp[du]at J
  obtain⟨rfl,rfl,rfl⟩:=J
  exact wpIn_label (aw D β w a .normal rfl aS (.refl D β w))
 | exit id =>
  intro dd Z M D β h ai w ro env bz a x Q J _ aS _ aw
  simp[du]at J
  obtain⟨rfl,rfl,rfl⟩:=J
  exact wpIn_exit (aw D β w a (.exit id) rfl aS (.refl D β w))
 | ret =>
  intro dd Z M D β h ai w ro env bz a x Q J _ aS _ aw
  simp[du]at J
  obtain⟨rfl,rfl,rfl⟩:=J
  exact wpIn_ret (aw D β w a .ret rfl aS (.refl D β w))
 | goto l=>intro dd Z M D β h ai w ro env bz a x Q J;simp[du]at J
 | refuse aDm=>intro dd Z M D β h ai w ro env bz a x Q J;simp[du]at J
 | region id ops draw =>
  intro dd Z M D β h ai w ro env bz a x Q J ck aS _ aw
  cases draw with
  | false =>
   simp only[du]at J
   split at J
   ·rename_i eg ad aC
    simp at J
    obtain⟨rfl,rfl,rfl⟩:=J
    exact wpIn_region_list (auI dD bK ops.toList aC aS fun a5 a4 w' cb st U=>aw a5 a4 w' cb .normal rfl st U)
   ·split at J
    ·split at J
     ·rename_i eg ad aC
      simp at J
      obtain⟨rfl,rfl,rfl⟩:=J
      exact wpIn_region_list (auY dD bK ops.toList aC aS fun a5 a4 w' cb br sM st U=>aw a5 a4 w' cb (.panic br) ⟨br,sM,rfl⟩ st U)
     ·simp at J
    ·simp at J
  | true =>
   simp only[du]at J
   split at J
   ·rename_i eg ad aq aC
    split at J
    ·rename_i amW
     simp at J
     obtain⟨rfl,rfl,rfl⟩:=J
     refine wpIn_region_draw fun t=>?_
     obtain⟨bQ,g⟩:=alg (S:=fun _=>False) aS.inv.g (w.drawn+1)
     have uU:St pol Z M D β h { w with drawn:=w.drawn+1 } ro a env :=
      ⟨aS.inv.step g bQ (fun _ _=>rfl) (fun _ _ h=>h.elim) (bP _) (fun _ _ _ h=>h.elim),aS.env.mono bQ.ext,aS.gK.mono bQ.ext,aS.marks.mono bQ.ext,fun l ao=>let⟨L,eL⟩:=aS.round l ao;bQ.ext.loops l L eL⟩
     exact h3 aC amW (by simpa[codeOk]using ck) uU (fun a5 a4 w' cb st U=>aw a5 a4 w' cb .normal rfl st (bQ.ext.trans U)) t
    ·simp at J
   ·simp at J
 | seq p q zX BU =>
  intro dd Z M D β h ai w ro env bz a x Q J ck aS hK aw
  simp[codeOk]at ck
  simp only[du]at J
  split at J
  ·rename_i eg ad G7
   refine wpIn_seq (zX G7 ck.1 aS hK fun a5 a4 w' cb e he hD dW=>?_)
   cases he
   exact BU J ck.2 hD (kP hK dW.size) fun ny oe m6 r7 e he m3 fo=>aw ny oe m6 r7 e he m3 (dW.trans fo)
  ·rename_i al
   refine wpIn_seq (zX J ck.1 aS hK fun a5 a4 w' cb e he hD dW=>?_)
   have aE:=aw a5 a4 w' cb e he hD dW
   cases x with
   | normal=>exact absurd J (al _ _)
   | exit id=>cases he;exact aE
   | ret=>cases he;exact aE
   | panic=>obtain⟨br,_,rfl⟩:=he;exact aE
 | cond c p q zX BU =>
  intro dd Z M D β h ai w ro env bz a x Q J ck aS hK aw
  simp[codeOk]at ck
  simp only[du]at J
  split at J
  ·rename_i t ax
   have al:=aS.rep c
   rw[ax]at al
   refine wpIn_cond al.dN.fS.1 ?_
   cases t with
   | true=>simp at J ⊢;exact zX J ck.1 aS hK aw
   | false=>simp at J ⊢;exact BU J ck.2 aS hK aw
  ·simp at J
 | block id c au =>
  intro dd Z M D β h ai w ro env bz a x Q J ck aS hK aw
  simp only[codeOk]at ck
  simp only[du]at J
  split at J
  ·rename_i j eg ad G7
   refine wpIn_block (au G7 ck aS hK fun a5 a4 w' cb e he hD dW=>?_)
   cases he
   simp only[Exit.inBlock]
   split at J
   ·rename_i aU
    simp at J
    obtain⟨rfl,rfl,rfl⟩:=J
    rw[a6 aU]
    exact aw a5 a4 w' cb .normal rfl hD dW
   ·rename_i aU
    simp at J
    obtain⟨rfl,rfl,rfl⟩:=J
    rw[a2 aU]
    exact aw a5 a4 w' cb (.exit j) rfl hD dW
  ·rename_i al
   refine wpIn_block (au J ck aS hK fun a5 a4 w' cb e he hD dW=>?_)
   have aE:=aw a5 a4 w' cb e he hD dW
   cases x with
   | normal=>cases he;exact aE
   | exit j=>exact absurd J (al _ _ _)
   | ret=>cases he;exact aE
   | panic=>obtain⟨br,_,rfl⟩:=he;exact aE
 | scope c au =>
  intro dd Z M D β h ai w ro env bz a x Q J ck aS hK aw
  simp only[codeOk]at ck
  simp only[du]at J
  refine aA7 (au J ck aS hK fun a5 a4 w' cb e he hD dW=>?_)
  have aE:=aw a5 a4 w' cb e he hD dW
  cases x with
  | panic=>obtain⟨br,_,rfl⟩:=he;exact aE
  | _=>cases he;exact aE
 | loop c au =>
  intro dd Z M D β h ai w ro env bz a x Q J ck aS hK aw
  simp only[codeOk]at ck
  simp only[du]at J
  refine wpIn_loop_rounds n ?_
  obtain⟨cF,iV⟩:∃ cF,cF=(if pol.M0 f dd then h.length+1000000 else h.length):=⟨_,rfl⟩
  rw[← iV]at J
  have hle:h.length≤cF:=by rw[iV];split<;>omega
  have key:∀(m:Nat) {jV:c8} {β1:dt} {ad:aj} {cI:World} {eg:Env} {cJ:Act},iter cF (pol.live f dd) (du P pol K I n f dd c) m eg ad=some (x,bz,ai)→St pol Z M jV β1 ad cI ro cJ eg→Ext D β w jV β1 cI →
    Code.roundsIn (fu ro) 0 P c Q m cJ cI:=by
   intro m
   induction m with
   | zero=>intro jV β1 ad cI eg cJ J;simp[iter]at J
   | succ m ao4 =>
    intro jV β1 ad cI eg cJ J LI ko
    simp only[iter]at J
    rw[roundsIn_succ]
    split at J
    ·rename_i hx ag ab
     refine au ab ck LI.tidy (kP hK ko.size) fun a5 a4 w' cb e he m3 fo=>?_
     cases he
     split at J
     ·rename_i sd aJ hy
      obtain⟨D2,β2,vd,s1,s2⟩:=m3.shrink hy
      exact ao4 J vd (Yg (ko.trans fo) (fun o e y ar=>w7 (aS.inv.kk o e y ar) hle) s1 s2)
     ·simp at J
    ·rename_i al
     refine au J ck LI.tidy (kP hK ko.size) fun a5 a4 w' cb e he m3 fo=>?_
     have aE:=aw a5 a4 w' cb e he m3 (ko.trans fo)
     cases x with
     | normal=>exact absurd J (al _ _)
     | exit id=>cases he;exact aE
     | ret=>cases he;exact aE
     | panic=>obtain⟨br,_,rfl⟩:=he;exact aE
  exact key n J aS (.refl D β w)
 | rangeFunc g bO assign body _ _ =>
  intro dd Z M D β h ai w ro env bz a x Q J ck aS hK aw
  simp[codeOk]at ck
  simp only[du]at J
  split at J
  ·rename_i nS args gf
   split at J
   ·rename_i v2 ag ey
    obtain⟨dx,mW⟩:=bK.live ey
    refine wpIn_rangeFunc fun fn _=>?_
    -- where yI record aCJ
    have uM:∃(w0:World) (mark:List Deferred) (L:Loop),(Instr.enterLoop fn a.tmps bO assign body (fu ro).round).run P w=.ok (w0.heap.size,mark) (w0.alloc (.loop L))∧Inv Z D β h w0∧Ext D β w D β w0 ∧
      L.tmps=a.tmps∧L.state=.ready∧L.pending=none∧L.params=bO∧L.assign=assign∧L.body=body ∧
      (∀ a5 a4 w',Ext D β w0 a5 a4 w'→Marks M w' (mark++a.defers)):=by
     cases tD:ro with
     | none =>
      have f0:hd (fun _=>False) D β w D β (w.alloc (.deferred (some []))):=Bi aS.inv.g _
      have i0:Inv Z D β h (w.alloc (.deferred (some []))):=aS.inv.step (aS.inv.g.alloc _ (by simp)) f0 (fun _ _=>rfl) (fun _ _ h=>h.elim) (bP _) (fun _ _ _ h=>h.elim)
      refine⟨w.alloc (.deferred (some [])),[{ target:=.collected w.heap.size,args:=#[] }],{ state:=.ready,pending:=none,fn,tmps:=a.tmps,params:=bO,assign,body,defers:=w.heap.size },?_,i0,f0.ext,rfl,rfl,rfl,rfl,rfl,rfl,?_⟩
      ·rw[World.size_alloc];exact run_enterLoop_outer _ _ _ _ _
      ·intro a5 a4 w' U
       obtain⟨rs,b9,b3,cG⟩:=(aS.marks.mono f0.ext).mono U
       refine⟨w.heap.size::rs,by simp[b9],AS.2 ⟨fun hm=>?_,b3⟩,fun r al=>?_⟩
       ·obtain⟨Fk,a3,_,cz⟩:=aS.marks
        have he:rs=Fk:=by
         have e:=b9.symm.trans a3
         exact(List.map_inj_right (fun x y h=>by simpa using h)).1 (List.append_cancel_right e)
        subst he
        have:=lU (cz _ hm).2
        omega
       ·rcases iu.1 al with rfl|al
        ·exact⟨hK,U.defs _ _ (heap_alloc_new _)⟩
        ·exact cG r al
     | some eh =>
      obtain⟨OB,amh⟩:=aS.round eh tD
      refine⟨w,[],{ state:=.ready,pending:=none,fn,tmps:=a.tmps,params:=bO,assign,body,defers:=OB.defers },run_enterLoop_inner amh _ _ _ _ _,aS.inv,.refl D β w,rfl,rfl,rfl,rfl,rfl,rfl,fun a5 a4 w' U=>aS.marks.mono U⟩
    obtain⟨w0,mark,L,dT,i0,p6,t1,t2,t3,t4,t5,t6,g8⟩:=uM
    obtain⟨i1,dW⟩:=arH (f:=f) i0 (N7 (live:=pol.live f dd) (aS.env.mono p6)) ⟨by rw[t5];exact(fq _ _).2 ck.1,by rw[t6];exact(fq _ _).2 ck.2⟩ t1 t2 t3
    rw[t4,t5,t6]at i1
    have JK:=p6.trans dW
    have jo:ir D (kR β h.length 0 w0.heap.size 0) (w0.alloc (.loop L)) [.func (.yield w0.heap.size) #[] #[]] [.bF h.length]:=by
     refine⟨rfl,fun i v x az U=>?_⟩
     cases i with
     | zero=>simp at az U;subst az;subst U;exact .bF _ _ 0 (xd _ _ _ _ _)
     | succ i=>simp at az
    obtain⟨d,j6,jL,aoo,hinv⟩:=Du (P:=P) gf ((aS.rep g).mono JK) jo
    have qp:(resolve a.eval (rangeCall g w0.heap.size) 0).run P (w0.alloc (.loop L))=.ok d (w0.alloc (.loop L)):=by
     have e:(#[Operand.const (.func (.yield w0.heap.size) #[] #[])].map a.eval)=[Value.func (.yield w0.heap.size) #[] #[]].toArray:=by simp[Act.eval]
     simp only[resolve,rangeCall]
     rw[e]
     exact jL _
    refine⟨w0.heap.size,mark,w0.alloc (.loop L),d,w0.alloc (.loop L),nS,j6.toArray,w0.alloc (.loop L),dT,qp,fun _ _=>trivial,(hinv _).trans (yz dx _ _),fun aF=>by simp[fu,Fence.wide]at aF,?_⟩
    refine PJ (CallsIn.mono (mW Z D _ _ j6 i1 (aS.gK.mono JK) aoo) fun e hE av=>?_)
    obtain⟨bU,rfl,a5,a4,i3,nR,ps,_⟩:=av
    split at J<;>try(simp at J)
    all_goals
     rename_i aBM dC lO hy
     obtain⟨rfl,rfl,rfl⟩:=J
    all_goals
     unfold Cf at lO
     split at lO<;>try(simp at lO)
    all_goals
     subst lO
     rename_i aBO zq aC0 aBz aBD bx
     have xC:a4 h.length 0=some (w0.heap.size,0):=ps.oR _ _ _ (xd _ _ _ _ _)
     obtain⟨_,G9,FR,Bl,_,_,_,_,ZX,Z9,_⟩:=i3.obj _ _ bx 0 _ _ xC
     have mR:=run_endLoop (P:=P) Bl (by rw[Z9];simp)
     obtain⟨i4,ub⟩:=Uu (x:=.gone) (L':={ FR with state:=.exhausted }) i3 xC G9 Bl trivial
     have Wo:=(JK.trans ps).trans ub
     have aBe:=(dW.trans ps).trans ub
     have VY:St pol Z M a5 a4 (ag.set h.length .gone) (hE.putObj w0.heap.size (.loop { FR with state:=.exhausted })) ro { a with defers:=mark++a.defers } env :=
      ⟨i4,aS.env.mono Wo,nR.mono ub,g8 _ _ _ aBe,fun l ao=>let⟨L,eL⟩:=aS.round l ao;Wo.loops l L eL⟩
     obtain⟨afP,aBr,ayS,s1,s2⟩:=VY.shrink hy
     have aE:=fun e he=>aw afP aBr _ _ e he ayS (Yg Wo aS.inv.kk s1 s2)
     have mR:=mR.trans (congrArg (fun p=>Result.ok p _) ZX)
    ·exact⟨none,_,mR,aE _ rfl⟩
    ·exact⟨some .ret,_,mR,wpIn_ret (aE _ rfl)⟩
    ·exact⟨some (.exit _),_,mR,wpIn_exit (aE _ rfl)⟩
   ·simp at J
  ·simp at J
end Go.Abs
/- Functions: a body run in the caller's heap,a round of a loop over a function,a call with trees. -/
namespace Go.Abs
open Go
variable{P:Program}{pol:c4}{K:eZ}{I:eY}{Z:hG}{D a5 D2:c8}{β a4 β2:dt}{w w' w0:World}{h ai:aj}{ro:Option Nat}{M:sX}{f:FuncId}
theorem agA{t:TypeId}{a x:ah}{AB:Value}(ao:xa P t a h=some x)(ae:bf D β w AB a):∃ p,AB=.pointer (some p):=by
 unfold xa at ao
 split at ao
 ·have ax:=ae.dN
  cases ax with
  | ip b off cs cR c af al=>exact⟨_,rfl⟩
 ·cases ae with
  | ref o e i off b k ab=>exact⟨_,rfl⟩
 ·simp at ao
def Fb(tmps:Array Value):ResultVar→Sem Value
 | .tmp t=>pure (tmps.getD t undef)
 | .cell a t=>do loadVar t (← asAddr (tmps.getD a undef))
theorem aw8[cf]{env:Env}{tmps:Array Value}{r:ResultVar}{x:ah}(J:Dg P env h r=some x)(he:g3 D β w tmps env)(hi:Inv Z D β h w):∃ v,(Fb tmps r).run P w=.ok v w∧bf D β w v x:=by
 have xG:∀ t,bf D β w (tmps.getD t undef) (env.getD t .dead):=fun t=>by
  have:=GR (pol:=⟨fun _ _=>false,fun _ _=>false,fun _ _ _=>false,fun _ _=>false,fun _ _=>none,fun _ _=>[],fun _=>none,fun _=>false,fun _ _=>none,fun _ _ _=>false,fun _ _=>false,fun _=>false,fun _=>false⟩) (a:={ tmps,defers:=[] }) he ⟨fun g x U=>by simp at U,fun g aq U=>by simp at U⟩ (.tmp t)
  exact this
 cases r with
 | tmp t=>simp[Dg]at J;subst J;exact⟨_,rfl,xG t⟩
 | cell a t =>
  simp only[Dg]at J
  obtain⟨v,ad,ag⟩:=W4 (w:=w) J (xG a) (fun o y _ ar=>hi.obj o y ar)
  obtain⟨p,av⟩:=agA J (xG a)
  refine⟨v,?_,ag⟩
  simp only[Fb]
  rw[av]at ad ⊢
  simpa[Instr.loadAt,Instr.sureAddr,asAddr,Sem.run,pure,Result.andThen]using ad
theorem aw9[cf]{env:Env}{tmps:Array Value}(he:g3 D β w tmps env)(hi:Inv Z D β h w):∀(rs:List ResultVar) (vs:List ah),qa P env h rs=some vs→∃ l,(rs.mapM (Fb tmps)).run P w=.ok l w∧ir D β w l vs:=by
 intro rs
 induction rs with
 | nil=>intro vs J;simp[qa]at J;subst J;exact⟨[],rfl,rfl,by simp⟩
 | cons r rs au =>
  intro vs J
  simp only[qa]at J
  split at J
  ·rename_i x xs U jO
   simp at J;subst J
   obtain⟨v,ad,ag⟩:=aw8 U he hi
   obtain⟨l,aJ,bL⟩:=au xs jO
   refine⟨v::l,?_,by simp[bL.1],fun i u y hu ar=>?_⟩
   ·rw[Dd]
    simp only[Sem.run_bind,ad,Result.andThen,aJ,Sem.run_pure]
   ·cases i with
    | zero=>simp at hu ar;subst hu;subst ar;exact ag
    | succ i=>exact bL.2 i u y (by simpa using hu) (by simpa using ar)
  ·simp at J
theorem Jk[cf]{env:Env}{tmps:Array Value}{fn:Func}{vs:List ah}(J:qa P env h fn.results.toList=some vs)(he:g3 D β w tmps env)(hi:Inv Z D β h w):∃ v,(results fn tmps).run P w=.ok v w∧bf D β w v (one vs):=by
 obtain⟨l,ad,ag⟩:=aw9 he hi fn.results.toList vs J
 have hm:(fn.results.mapM (Fb tmps)).run P w=.ok l.toArray w:=by
  rw[WW]
  rw[map_eq_pure_bind]
  simp only[Sem.run_bind,ad,Result.andThen,Sem.run_pure]
 have e:results fn tmps=(do let vs ← fn.results.mapM (Fb tmps);pure (if h:vs.size=1 then vs[0]else .tuple vs)):=by
  unfold results Fb
  congr 1
 refine⟨if h:l.toArray.size=1 then l.toArray[0]else .tuple l.toArray,?_,?_⟩
 ·rw[e]
  simp only[Sem.run_bind,hm,Result.andThen,Sem.run_pure]
 ·have ch:vs.length≠1→one vs=oC vs:=by
   intro eo
   unfold one
   split
   ·simp at eo
   ·rfl
  split
  ·rename_i ao
   have ao:l.length=1:=by simpa using ao
   match vs,ag.1.symm.trans ao with
   | [x],_=>exact ag.2 0 _ x (by simp) rfl
  ·rename_i ao
   have ao:l.length≠1:=by simpa using ao
   rw[ch (by rw[← ag.1];exact ao)]
   exact bf.oC (by simpa using ag.1) (fun i v t az ax=>ag.2 i v t (by simpa using az) ax)
theorem V4[cf]{r:Nat}{ds:Option (List Deferred)}(hi:Inv Z D β h w)(al:w.heap[r]? = some (.deferred ds))(bG:Z.N≤r)(U:Ext D2 β2 w0 D β w)(hw:w0.heap.size≤r) :
  Inv Z D β h (w.putObj r (.deferred none))∧Ext D2 β2 w0 D β (w.putObj r (.deferred none))∧(∀ x v,bf D β w v x→bf D β (w.putObj r (.deferred none)) v x):=by
 obtain⟨ZN,ZQ⟩:=hi.g.eU r ds al bG
 have aB:=lU al
 have rh:∀ b,b≠r→(w.putObj r (.deferred none)).heap[b]? = w.heap[b]?:=fun b ab=>World.putObj_heap_other ab
 have uT:(w.putObj r (.deferred none)).heap[r]? = some (.deferred none):=World.putObj_heap_same aB
 have lR:∀ b n,jv w b=some n→jv (w.putObj r (.deferred none)) b=some n:=by
  intro b n aw
  by_cases ab:b=r
  ·subst ab;simp[jv,al]at aw
  ·simp only[jv,rh b ab];exact aw
 have cR:∀ b,D b→(w.putObj r (.deferred none)).heap[b]? = w.heap[b]?:=fun b ab=>rh b (fun e=>ZN (e ▸ ab))
 have So:∀ o e b k,β o e=some (b,k)→(w.putObj r (.deferred none)).heap[b]? = w.heap[b]?:=fun o e b k ab=>rh b (fun bs=>ZQ o e k (bs ▸ ab))
 have rep:∀ x v,bf D β w v x→bf D β (w.putObj r (.deferred none)) v x:=by
  intro x v az
  induction az with
  | t v x h=>exact .t v x (h.mono (fun _ h=>h) cR)
  | agg cs aq ao _ au=>exact .agg cs aq ao au
  | ch cs aq ao _ au=>exact .ch cs aq ao au
  | fn f a b x y ae ab _ _ tF qu=>exact .fn f a b x y ae ab tF qu
  | ref o e i off b k ab=>exact .ref o e i off b k ab
  | k5 a o e i k clip bo=>exact .k5 a o e i k clip bo
  | ms o e i len k clip b cap n ab hle fF gu aw dn hex=>exact .ms o e i len k clip b cap n ab hle fF gu (lR _ _ aw) dn hex
  | mp o b k ab=>exact .mp o b k ab
  | bF o b k ab=>exact .bF o b k ab
  | dead v=>exact .dead v
 refine⟨⟨⟨by simpa using hi.g.jS,fun b ab=>(rh b (by omega)).trans (hi.g.dy b ab),hi.g.os,hi.g.out,fun b ab=>by simpa using hi.g.hV b ab,hi.g.lM,fun o e b k ab=>by simpa using hi.g.blt o e b k ab,hi.g.inj,fun b P1 ab QO=>?_⟩,fun o x U=>?_,hi.kk⟩,?_,rep⟩
 ·by_cases cS:b=r
  ·subst cS;exact⟨ZN,ZQ⟩
  ·rw[rh b cS]at ab;exact hi.g.eU b P1 ab QO
 ·have:=hi.obj o x U
  cases x with
  | gone=>trivial
  | row k es aG =>
   refine⟨this.1,fun e b bg ab=>?_⟩
   obtain⟨a3,a7,cz,eJ⟩:=this.2 e b bg ab
   refine⟨a3,a7,cz,fun hm=>?_⟩
   obtain⟨c,ty,b9,b3,cG⟩:=eJ hm
   refine⟨c,ty,(So o e b bg ab).trans b9,b3,fun i x j t fz dM ax=>?_⟩
   obtain⟨v,s1,s2,a8⟩:=cG i x j t fz dM ax
   exact⟨v,s1,s2,rep _ _ a8⟩
  | map es =>
   intro e b k ab
   obtain⟨hC,a3,mes,clock,a7,cz,mh,eJ⟩:=this e b k ab
   exact⟨hC,a3,mes,clock,(So o e b k ab).trans a7,cz,mh,fun i m dF hm an=>⟨(eJ i m dF hm an).1,rep _ _ (eJ i m dF hm an).2⟩⟩
  | loop f env params assign body busy pending =>
   intro e b k ab
   obtain⟨hC,a3,L,a7,cz,eJ,gD,wC,wD,hk,Am⟩:=this e b k ab
   exact⟨hC,a3,L,(So o e b k ab).trans a7,cz,eJ,gD,wC,wD,hk,Am.1,fun i v x az U=>rep _ _ (Am.2 i v x az U)⟩
 ·refine⟨U.sub,fun b ab=>(cR b (U.sub b ab)).trans (U.same b ab),U.oR,fun b n aw=>lR b n (U.rows b n aw),fun b P1 ab=>(rh b (fun e=>?_)).trans (U.defs b P1 ab),fun b L ab=>?_,by simpa using U.size⟩
  ·have:=lU ab;omega
  ·obtain⟨L',Hc⟩:=U.loops b L ab
   refine⟨L',(rh b (fun e=>?_)).trans Hc⟩
   subst e;rw[al]at Hc;cases Hc
theorem asS[cf]{fn:Func}{env:Env}{vs:List ah}{tmps:Array Value}{R:Ending→World→Prop}(g9:qa P env h fn.results.toList=some vs)(Hh:Z.N≤w0.heap.size)
  (bk:∀ v w',Inv Z D β h w'→hH pol D w'→Ext D2 β2 w0 D β w'→bf D β w' v (one vs)→R (.returned v) w') :
  ∀(ds:List Deferred) (w:World),Marks (w0.heap.size,[]) w ds→Inv Z D β h w→hH pol D w→Ext D2 β2 w0 D β w→g3 D β w tmps env→LeavesInM (fu none) 0 P fn tmps R ds .returning w:=by
 intro ds
 induction ds with
 | nil =>
  intro w _ hi ay U he
  obtain⟨v,ad,ag⟩:=Jk g9 he hi
  exact⟨v,ad,bk v w hi ay U ag⟩
 | cons d ds au =>
  intro w hm hi ay U he
  obtain⟨rs,aT,aW,bw⟩:=hm
  cases rs with
  | nil=>simp at aT
  | cons r rs =>
   simp at aT
   obtain⟨rfl,rfl⟩:=aT
   obtain⟨lO,al⟩:=bw r (by simp)
   have bG:Z.N≤r:=kP Hh lO
   obtain⟨i1,dW,b9⟩:=V4 hi al bG U lO
   refine⟨by simp,.inl ⟨r,_,rfl,run_takeDeferred al,au _ ?_ i1 ⟨fun g x uO=>?_,fun g aq uO=>?_⟩ dW ⟨he.1,fun i v x az x1=>b9 _ _ (he.2 i v x az x1)⟩⟩⟩
   ·have km:=AS.1 aW
    refine⟨rs,by simp,km.2,fun q aE=>⟨(bw q (by simp[aE])).1,(World.putObj_heap_other (k:=q) (r:=r) (fun e=>km.1 (by subst e;exact aE))).trans (bw q (by simp[aE])).2⟩⟩
   ·have:=b9 (.t x) _ (.t _ _ (ay.rep g x uO))
    exact this.dN
   ·obtain⟨aF,cs,ty,bQ,af,aw⟩:=ay.row g aq uO
    have eo:g≠r:=fun e=>(hi.g.eU r _ al bG).1 (e ▸ aF)
    exact⟨aF,cs,ty,bQ,(World.putObj_heap_other eo).trans af,aw⟩
theorem asR[cf]{fn:Func}{tmps:Array Value}{R:Ending→World→Prop}{br:List PanicEntry}(Hh:Z.N≤w0.heap.size)(bk:∀ w',Inv Z D β h w'→hH pol D w'→Ext D2 β2 w0 D β w'→R (.panicked br) w') :
  ∀(ds:List Deferred) (w:World),Marks (w0.heap.size,[]) w ds→Inv Z D β h w→hH pol D w→Ext D2 β2 w0 D β w→LeavesInM (fu none) 0 P fn tmps R ds (.panicking br) w:=by
 intro ds
 induction ds with
 | nil=>intro w _ hi ay U;exact bk w hi ay U
 | cons d ds au =>
  intro w hm hi ay U
  obtain⟨rs,aT,aW,bw⟩:=hm
  cases rs with
  | nil=>simp at aT
  | cons r rs =>
   simp at aT
   obtain⟨rfl,rfl⟩:=aT
   obtain⟨lO,al⟩:=bw r (by simp)
   have bG:Z.N≤r:=kP Hh lO
   obtain⟨i1,dW,b9⟩:=V4 hi al bG U lO
   refine⟨by simp,.inl ⟨r,_,rfl,run_takeDeferred al,au _ ?_ i1 ⟨fun g x uO=>?_,fun g aq uO=>?_⟩ dW⟩⟩
   ·have km:=AS.1 aW
    refine⟨rs,by simp,km.2,fun q aE=>⟨(bw q (by simp[aE])).1,(World.putObj_heap_other (k:=q) (r:=r) (fun e=>km.1 (by subst e;exact aE))).trans (bw q (by simp[aE])).2⟩⟩
   ·have:=b9 (.t x) _ (.t _ _ (ay.rep g x uO))
    exact this.dN
   ·obtain⟨aF,cs,ty,bQ,af,aw⟩:=ay.row g aq uO
    have eo:g≠r:=fun e=>(hi.g.eU r _ al bG).1 (e ▸ aF)
    exact⟨aF,cs,ty,bQ,(World.putObj_heap_other eo).trans af,aw⟩
structure FV(P:Program)(pol:c4)(ok:List (Nat × Nat)→Array Oper→Bool):Prop where
 fns:∀ f fn c,P.funcs[f]? = some fn→fn.body=some c→codeOk pol ok f c=true∧fn.name ≠ "runtime.NumGoroutine"
theorem DD{vs:List Value}{args:List ah}(al:ir D β w vs args)(k:Nat):g3 D β w (vs.toArray++Array.replicate (k-vs.toArray.size) undef) (args++List.replicate (k-args.length) .dead):=by
 refine⟨by simp[al.1],fun i v x az U=>?_⟩
 by_cases hi:i<args.length
 ·rw[fv hi]at U
  rw[Array.getElem?_append_left (by simp[al.1,hi])]at az
  exact al.2 i v x (by simpa using az) U
 ·rw[g5 (Pf hi),s7]at U
  split at U
  ·cases U;exact .dead v
  ·cases U
theorem Xq[cf]{ok:List (Nat × Nat)→Array Oper→Bool}{n:Nat}(fq:∀ f c,cf.ok f c↔codeOk pol ok f c=true)(eB:FV P pol ok)(dD:l2 P pol K)(bK:j9 P pol I)(h3:sT P pol K I ok)
  {args:List ah} {v:ah} (ab:p9 P pol K I n f args h=some (v,ai)):AH P f∧∀(Z:hG) (D:c8) (β:dt) (w:World) (vs:List Value),Inv Z D β h w→hH pol D w→ir D β w vs args →
   CallsIn Fence.wide 0 P f vs.toArray w (JS pol Z D β w v ai):=by
 unfold p9 at ab
 split at ab
 ·rename_i fn aI
  split at ab
  ·rename_i c af
   obtain⟨Zf,anU⟩:=eB.fns f fn c aI af
   refine⟨⟨fn,c,aI,af,anU⟩,fun Z D β w vs hi ay al=>?_⟩
   have fin:∀ x eg ad rs,du P pol K I n f 0 c (args++List.replicate (fn.ntmps-args.length) .dead) h=some (x,eg,ad)→(x=.normal∨x=.ret)→qa P eg ad fn.results.toList=some rs→alive (some (one rs,ad))=some (v,ai) →
     CallsIn Fence.wide 0 P f vs.toArray w (JS pol Z D β w v ai):=by
    intro x eg ad rs q8 U hh tq
    obtain⟨az,km⟩:=Pp tq
    simp only[Option.some.injEq,Prod.mk.injEq]at az
    obtain⟨rfl,rfl⟩:=az
    refine callsIn_of_wp_marks (F:=fu none) aI af trivial ?_ rfl
    refine GI fq dD bK h3 c (ro:=none) (M:=(w.heap.size,[])) q8 Zf ⟨hi,DD al fn.ntmps,ay,.nil,fun l ao=>by simp at ao⟩ (bP _) fun a5 a4 w' cb e he st x1=>?_
    have:=asS (fn:=fn) (tmps:=cb.tmps) (R:=JS pol Z D β w (one rs) ad) (w0:=w) (D2:=D) (β2:=β) hh hi.g.jS (fun v m6 i2 c5 fo b3=>(.inl ⟨km,v,rfl,a5,a4,i2,c5,fo,b3⟩)) cb.defers w' st.marks st.inv st.gK x1 st.env
    rcases U with rfl|rfl
    ·cases he;exact this
    ·cases he;exact this
   split at ab
   ·rename_i eg ad q8
    split at ab
    ·rename_i rs hh
     exact fin _ eg ad rs q8 (.inl rfl) hh ab
    ·simp at ab
   ·rename_i eg ad q8
    split at ab
    ·rename_i rs hh
     exact fin _ eg ad rs q8 (.inr rfl) hh ab
    ·simp at ab
   ·rename_i eg ad q8
    simp only[Option.some.injEq,Prod.mk.injEq]at ab
    obtain⟨rfl,rfl⟩:=ab
    refine callsIn_of_wp_marks (F:=fu none) aI af trivial ?_ rfl
    refine GI fq dD bK h3 c (ro:=none) (M:=(w.heap.size,[])) q8 Zf ⟨hi,DD al fn.ntmps,ay,.nil,fun l ao=>by simp at ao⟩ (bP _) fun a5 a4 w' cb e he st x1=>?_
    obtain⟨br,sM,rfl⟩:=he
    exact asR (w0:=w) (D2:=D) (β2:=β) hi.g.jS (fun m6 i2 c5 fo=>.inr ⟨rfl,br,sM,rfl,a5,a4,i2,c5,fo⟩) cb.defers w' st.marks st.inv st.gK x1
   ·simp at ab
  ·simp at ab
 ·simp at ab
theorem ax3{env:Env}{tmps:Array Value}(he:g3 D β w tmps env):∀(bO:List Tmp) (vs:List Value) (args:List ah),ir D β w vs args →
  g3 D β w ((bO.zip vs).foldl (fun tmps (x:Tmp × Value)=>tmps.setIfInBounds x.1 x.2) tmps) (CE env (bO.zip args)):=by
 intro bO
 induction bO generalizing env tmps with
 | nil=>intro vs args _;exact he
 | cons p bO au =>
  intro vs args al
  cases vs with
  | nil =>
   cases args with
   | nil=>exact he
   | cons x xs=>have:=al.1;simp at this
  | cons v vs =>
   cases args with
   | nil=>have:=al.1;simp at this
   | cons x xs =>
    simp only[List.zip_cons_cons,p8,CE]
    exact au (he.set p (al.2 0 v x rfl rfl)) vs xs ⟨by have:=al.1;simpa using this,fun i u y hu ar=>al.2 (i+1) u y (by simpa using hu) (by simpa using ar)⟩
theorem MW[cf]{ok:List (Nat × Nat)→Array Oper→Bool}{n:Nat}(fq:∀ f c,cf.ok f c↔codeOk pol ok f c=true)(eB:FV P pol ok)(dD:l2 P pol K)(h3:∀ I,j9 P pol I→sT P pol K I ok):∀ d,j9 P pol (inl P pol K n d):=by
 intro d
 induction d with
 | zero=>exact⟨fun f args h v ai J=>by simp[inl]at J,fun o args h v ai J=>by simp[inl]at J⟩
 | succ d au =>
  refine⟨fun f args h v ai J=>?_,fun l args h v ai J Z D β w vs b k hi ay al ab=>?_⟩
  ·simp only[inl]at J
   exact Xq fq eB dD au (h3 _ au) J
  ·simp only[inl]at J
   split at J
   ·rename_i f env params assign body bx
    split at J
    ·simp at J
    ·rename_i hlen
     have hlen:args.length=params.length:=by simpa using hlen
     obtain⟨_,cR,L,eL,q8,xV,has,kH,ZX,Z9,rb⟩:=hi.obj _ _ bx 0 b k ab
     have dn:vs.toArray.size=L.params.size:=by
      have aT:L.params.size=params.length:=by rw[← xV];simp
      rw[aT,← hlen];simp[al.1]
     have ar:=run_yield (P:=P) (args:=vs.toArray) eL dn
     refine⟨_,_,_,_,ar,?_⟩
     split at J
     ·rename_i eg ad Q3
      split at J
      ·rename_i Lb Bp
       refine roundIn_of_wpIn trivial ?_
       have am5:g3 D β w ((L.params.zip vs.toArray).foldl (fun tmps x=>tmps.setIfInBounds x.1 x.2) L.tmps) (CE env (params.zip args)):=by
        have:=ax3 rb params vs args al
        rw[← OZ,Array.toList_zip,xV]
        exact this
       rw[has,kH]
       have VX:St pol Z (w.heap.size,[]) D β h w (some b) { tmps:=(L.params.zip vs.toArray).foldl (fun tmps x=>tmps.setIfInBounds x.1 x.2) L.tmps,defers:=[] } (CE env (params.zip args)) :=
        ⟨hi,am5,ay,.nil,fun gg j3=>by cases j3;exact⟨L,eL⟩⟩
       refine GI fq dD au (h3 _ au) assign (ro:=some b) (M:=(w.heap.size,[])) (n:=n) (f:=f) Q3 ((fq _ _).1 q8.1) VX (bP _) fun jV β1 cI cJ aT Ri hD dW=>?_
       cases Ri
       -- yI round aBE
       unfold A9 at Bp
       split at Bp
       ·rename_i f1 P6 Vs Pu A7 Zw
        simp at Bp
        subst Bp
        have kW:=dW.oR _ _ _ ab
        obtain⟨_,QI,ue,Hd,tr,nk,xz,amM,an8,LI,Ri⟩:=hD.inv.obj _ _ Zw 0 b k kW
        refine⟨_,run_beginRound Hd (by simpa using LI),?_⟩
        obtain⟨i2,fo⟩:=Uu (x:=.loop f1 P6 Vs Pu A7 true none) (L':={ ue with state:=.busy }) hD.inv kW QI Hd (by
         intro e bS bg cS
         have dM:=adZ (L':={ ue with state:=.busy }) hD.inv kW QI Hd
         obtain⟨hC,_⟩:=hD.inv.obj _ _ Zw e bS bg cS
         subst hC
         rw[kW]at cS
         cases cS
         exact⟨rfl,QI,_,World.putObj_heap_same (lU Hd),tr,nk,xz,amM,an8,rfl,Ri.mono dM⟩)
        have m3:St pol Z (w.heap.size,[]) jV β1 (ad.set l (.loop f1 P6 Vs Pu A7 true none)) (cI.putObj b (.loop { ue with state:=.busy })) (some b) cJ eg :=
         ⟨i2,hD.env.mono fo,hD.gK.mono fo,hD.marks.mono fo,fun gg j3=>by cases j3;exact fo.loops b ue Hd⟩
        have fin:∀(x:cW) (tI:Option Code) sd aJ,du P pol K (inl P pol K n d) n f 0 body eg (ad.set l (.loop f1 P6 Vs Pu A7 true none))=some (x,sd,aJ)→pU aJ l tI=some (v,ai) →
          (∀ a hE bU la,(Instr.endRound b tI).run P hE=.ok bU la→yU pol Z D β w v ai (.returned bU) la→∀ e,x.is e→roundPost P b (yU pol Z D β w v ai) e a hE) →
          body.wpIn (Fence.wide.inRound b) 0 P (roundPost P b (yU pol Z D β w v ai)) cJ (cI.putObj b (.loop { ue with state:=.busy })):=by
         intro x tI sd aJ sl Hq aoc
         refine GI fq dD au (h3 _ au) body (ro:=some b) (M:=(w.heap.size,[])) (n:=n) (f:=f) sl ((fq _ _).1 q8.2) m3 (by simpa using dW.size) fun CV FO hE dU akA aoN vd ps=>?_
         unfold pU at Hq
         split at Hq
         ·rename_i f3 akj avQ ag5 ahp Zx
          simp at Hq
          obtain⟨rfl,rfl⟩:=Hq
          have xC:=ps.oR _ _ _ kW
          obtain⟨_,G9,FR,Bl,zw,an0,amz,amN,aCq,aCv,am3⟩:=vd.inv.obj _ _ Zx 0 b k xC
          have mR:=run_endRound (P:=P) tI Bl
          obtain⟨i4,ub⟩:=Uu (x:=.loop f3 akj avQ ag5 ahp false tI) (L':={ FR with state:=if tI.isNone then .ready else .done,pending:=tI }) vd.inv xC G9 Bl (by
           intro e bS bg cS
           have dM:=adZ (L':={ FR with state:=if tI.isNone then .ready else .done,pending:=tI }) vd.inv xC G9 Bl
           obtain⟨hC,_⟩:=vd.inv.obj _ _ Zx e bS bg cS
           subst hC
           rw[xC]at cS
           cases cS
           exact⟨rfl,G9,_,World.putObj_heap_same (lU Bl),zw,an0,amz,amN,rfl,by simp,am3.mono dM⟩)
          exact aoc dU hE _ _ mR ⟨_,rfl,CV,FO,i4,vd.gK.mono ub,((dW.trans fo).trans ps).trans ub,.t _ _ (.aA _ rfl)⟩ akA aoN
         ·simp at Hq
        split at J
        ·rename_i sd aJ sl
         exact fin .normal none sd aJ sl J fun a hE bU la ad ag e he=>by cases he;exact⟨bU,la,ad,ag⟩
        ·rename_i sd aJ sl
         exact fin .ret (some .ret) sd aJ sl J fun a hE bU la ad ag e he=>by cases he;exact⟨bU,la,ad,ag⟩
        ·rename_i id sd aJ sl
         exact fin (.exit id) (some (.exit id)) sd aJ sl J fun a hE bU la ad ag e he=>by cases he;exact⟨bU,la,ad,ag⟩
        ·simp at J
       ·simp at Bp
      ·simp at J
     ·simp at J
   ·simp at J
theorem azK[cf]{ok:List (Nat × Nat)→Array Oper→Bool}{n d:Nat}(fq:∀ f c,cf.ok f c↔codeOk pol ok f c=true)(eB:FV P pol ok)(dD:l2 P pol K)(h3:∀ I,j9 P pol I→sT P pol K I ok)
  {aq:List T} {r:T} (al:wI P pol K n d f aq=some r):rZ P pol f aq r:=by
 unfold wI at al
 split at al
 ·rename_i v ai ab
  have bK:=MW (n:=n) fq eB dD h3 d
  obtain⟨af,mW⟩:=Xq fq eB dD bK (h3 _ bK) ab
  refine⟨af,fun w D args aF ay dn lj=>?_⟩
  have hi:Inv { N:=w.heap.size,W:=w,D:=D } D (fun _ _=>none) [] w :=
   ⟨⟨bP _,fun _ _=>rfl,rfl,rfl,aF,fun b ab _=>ab,fun o e b k ab=>by simp at ab,fun o e b k cC bs bg ab=>by simp at ab,
    fun b ds ab bG=>absurd (lU ab) (by simp at bG ⊢;omega)⟩,fun o x U=>by simp at U,fun o e y ar=>by simp at ar⟩
  have jo:ir D (fun _ _=>none) w args.toList (aq.map .t):=Cu dn lj
  have:=mW _ D _ w args.toList hi ay jo
  simp only[J9]at this
  refine CallsIn.mono this fun e w' av=>?_
  rcases av with⟨_,av⟩|⟨aF,_⟩
  rotate_left
  ·subst aF;simp[snap]at al
  obtain⟨bU,rfl,a5,a4,i2,_,fo,b3⟩:=av
  refine⟨bU,rfl,⟨i2.g.jS,i2.g.dy,i2.g.os,i2.g.out⟩,?_⟩
  have J:=CM (D2:=iy a5 a4 ez) (fun o x _ U=>i2.obj o x U) (fun b ab=>.inl ab) (fun o e b k av ab=>.inr ⟨o,e,k,av,ab⟩) 20 _ bU r al b3
  have g:=i2.g.iy ez
  refine J.mono (fun b ab=>?_) (fun _ _=>rfl)
  by_cases ao:b<w.heap.size
  ·exact .inl (g.lM b ab ao)
  ·exact .inr ⟨by omega,g.hV b ab,fun ds ra=>(g.eU b ds ra (by simp;omega)).1 ab⟩
 ·simp at al
end Go.Abs
/- Regions that draw their order: what the evaluator's operations hang on,and what they leave alone. -/
namespace Go.Abs
open Go
variable{P:Program}{pol:c4}{f:FuncId}{h ai:aj}{ρ qS:Operand→ah}
theorem afH{l:List (Nat × Operand)}(af:∀ x∈l.map (·.2),ρ x=qS x):nx ρ l=nx qS l:=by
 induction l with
 | nil=>rfl
 | cons p r au =>
  obtain⟨i,x⟩:=p
  simp only[nx]
  rw[af x (by simp),au (fun y ar=>af y (by simp at ar ⊢;exact .inr ar))]
theorem Vg{x:Option Operand}(af:∀ y∈x.toArray,ρ y=qS y):x.map ρ=x.map qS:=by
 cases x with
 | none=>rfl
 | some y=>simp[af y (by simp)]
theorem Nd{l:List Operand}(af:∀ y∈l,ρ y=qS y):l.map ρ=l.map qS:=OW af
theorem agC{o:Oper}(af:∀ x∈o.op.operands,ρ x=qS x):bj P pol f ρ h o=bj P pol f qS h o:=by
 cases aN:o.op with
 | call c =>
  rw[aN]at af
  simp only[bj,aN]
  have ae:c.args.toList.map ρ=c.args.toList.map qS:=Nd fun y ar=>af y (by simp[Op.operands,Call.operands];exact .inr (by simpa using ar))
  rw[ae]
  split
  ·rfl
  ·rename_i g ay
   rw[af g (by simp[Op.operands,Call.operands,ay])]
  ·rfl
 | build t parts =>
  rw[aN]at af
  simp only[bj,aN]
  rw[afH (l:=parts.toList) (fun x U=>af x (by simpa[Op.operands]using U))]
 | buildSlice t len parts =>
  rw[aN]at af
  simp only[bj,aN]
  rw[afH (l:=parts.toList) (fun x U=>af x (by simpa[Op.operands]using U))]
 | makeFunc fn first captured =>
  rw[aN]at af
  simp only[bj,aN]
  have ad:first.toList.map ρ=first.toList.map qS:=Nd fun y ar=>af y (by simp[Op.operands];exact .inl (by simpa using ar))
  have ag:captured.toList.map ρ=captured.toList.map qS:=Nd fun y ar=>af y (by simp[Op.operands];exact .inr (by simpa using ar))
  rw[ad,ag]
 | slice t x lo hi gM =>
  rw[aN]at af
  simp only[bj,aN]
  rw[af x (by simp[Op.operands]),Vg (x:=lo) (fun y ar=>af y (by simp[Op.operands]at ar ⊢;simp[ar])),Vg (x:=hi) (fun y ar=>af y (by simp[Op.operands]at ar ⊢;simp[ar])),
   Vg (x:=gM) (fun y ar=>af y (by simp[Op.operands]at ar ⊢;simp[ar]))]
 | makeMap t r=>cases r<;>simp only[bj,aN]
 | alloc t=>simp only[bj,aN]
 | move x=>rw[aN]at af;simp only[bj,aN,af x (by simp[Op.operands])]
 | assign x=>rw[aN]at af;simp only[bj,aN,af x (by simp[Op.operands])]
 | box t x=>rw[aN]at af;simp only[bj,aN,af x (by simp[Op.operands])]
 | load t x=>rw[aN]at af;simp only[bj,aN,af x (by simp[Op.operands])]
 | nilCheck x=>rw[aN]at af;simp only[bj,aN,af x (by simp[Op.operands])]
 | unOp op t x=>rw[aN]at af;simp only[bj,aN,af x (by simp[Op.operands])]
 | convert s t x=>rw[aN]at af;simp only[bj,aN,af x (by simp[Op.operands])]
 | fieldAddr s x i=>rw[aN]at af;simp only[bj,aN,af x (by simp[Op.operands])]
 | field s x i=>rw[aN]at af;simp only[bj,aN,af x (by simp[Op.operands])]
 | extract x i=>rw[aN]at af;simp only[bj,aN,af x (by simp[Op.operands])]
 | pick c a b=>rw[aN]at af;simp only[bj,aN,af c (by simp[Op.operands]),af a (by simp[Op.operands]),af b (by simp[Op.operands])]
 | store t a x=>rw[aN]at af;simp only[bj,aN,af a (by simp[Op.operands]),af x (by simp[Op.operands])]
 | binOp op t x y cA=>rw[aN]at af;simp only[bj,aN,af x (by simp[Op.operands]),af y (by simp[Op.operands])]
 | makeSlice t l c=>rw[aN]at af;simp only[bj,aN,af l (by simp[Op.operands]),af c (by simp[Op.operands])]
 | indexAddr t x i=>rw[aN]at af;simp only[bj,aN,af x (by simp[Op.operands]),af i (by simp[Op.operands])]
 | index t x i=>rw[aN]at af;simp only[bj,aN,af x (by simp[Op.operands]),af i (by simp[Op.operands])]
 | lookup t x i ok=>rw[aN]at af;simp only[bj,aN,af x (by simp[Op.operands]),af i (by simp[Op.operands])]
 | mapUpdate t m k x=>rw[aN]at af;simp only[bj,aN,af m (by simp[Op.operands]),af k (by simp[Op.operands]),af x (by simp[Op.operands])]
 | insert t m k x=>rw[aN]at af;simp only[bj,aN,af m (by simp[Op.operands]),af k (by simp[Op.operands]),af x (by simp[Op.operands])]
 | _=>simp only[bj,aN]
theorem azQ{o:Oper}(af:∀ x∈o.op.operands,ρ x=qS x):cO pol f ρ o=cO pol f qS o:=by
 cases aN:o.op with
 | call c =>
  rw[aN]at af
  simp only[cO,aN]
  have ae:∀ y∈c.args.toList,ρ y=qS y:=fun y ar=>af y (by simp[Op.operands,Call.operands];exact .inr (by simpa using ar))
  have aI:(c.args.toList.flatMap fun a=>cl (ρ a))=c.args.toList.flatMap fun a=>cl (qS a):=by
   simp only[List.flatMap]
   rw[OW (fun y ar=>by rw[ae y ar])]
  rw[Nd ae,aI]
  split
  ·rfl
  ·rfl
  ·rfl
  ·rfl
  ·rename_i g ay
   rw[af g (by simp[Op.operands,Call.operands,ay])]
  ·rfl
 | load t x=>rw[aN]at af;simp only[cO,aN,af x (by simp[Op.operands])]
 | store t a x=>rw[aN]at af;simp only[cO,aN,af a (by simp[Op.operands])]
 | lookup t x i ok=>rw[aN]at af;simp only[cO,aN,af x (by simp[Op.operands])]
 | mapUpdate t m k x=>rw[aN]at af;simp only[cO,aN,af m (by simp[Op.operands])]
 | insert t m k x=>rw[aN]at af;simp only[cO,aN,af m (by simp[Op.operands])]
 | _=>simp only[cO,aN]
def Leaves(l:List Nat)(h ai:aj):Prop:=h.length≤ai.length∧∀ q:Nat,q<h.length→q ∉ l→ai[q]? = h[q]?
theorem UL(l:List Nat)(h:aj):Leaves l h h:=⟨bP _,fun _ _ _=>rfl⟩
theorem ac1(l:List Nat)(h x:aj):Leaves l h (h++x):=⟨by simp,fun q aE _=>fv aE⟩
theorem M8{l:List Nat}{o:Nat}(hm:o∈l)(h:aj)(x:a9):Leaves l h (h.set o x):=⟨by simp,fun q _ aw=>iv (fun e=>aw (by rw[← e];exact hm))⟩
theorem ago{t:TypeId}{s x v:ah}(ae:AX P t s x h=some (v,ai)):Leaves (cl s++cl x) h ai:=by
 revert ae
 unfold AX
 repeat' split
 all_goals(intro ae;cases ae)
 all_goals first|exact UL _ _|exact ac1 _ _ _|exact M8 (by simp[cl]) _ _
theorem agu{t:TypeId}{d s v:ah}(ae:Gm P t d s h=some (v,ai)):Leaves (cl d++cl s) h ai:=by
 revert ae
 unfold Gm
 repeat' split
 all_goals(intro ae;cases ae)
 all_goals first|exact UL _ _|exact M8 (by simp[cl]) _ _
theorem agF{t:TypeId}{a v:ah}(ae:AZ P t a v h=some ai):Leaves (cl a) h ai:=by
 revert ae
 unfold AZ
 repeat' split
 all_goals(intro ae;cases ae)
 all_goals exact M8 (by simp[cl]) _ _
theorem W6{t:TypeId}{m k v:ah}(ae:zf P t m k v h=some ai):Leaves (cl m) h ai:=by
 revert ae
 unfold zf
 repeat' split
 all_goals(intro ae;cases ae)
 all_goals exact M8 (by simp[cl]) _ _
inductive Kind where
 | n|r|a|w
def e2(o:Op):Kind :=
 match o with
 | .load ..=>.r
 | .lookup ..=>.r
 | .assign _=>.a
 | .alloc _=>.a
 | .box ..=>.a
 | .buildSlice ..=>.a
 | .makeMap ..=>.a
 | .makeSlice ..=>.a
 | .store ..=>.w
 | .insert ..=>.w
 | .mapUpdate ..=>.w
 | .call c=>match c.callee with
  | .builtin .len=>.r
  | .builtin .min=>.n
  | .builtin .max=>.n
  | _=>.w
 | _=>.n
def Kind.quiet:Kind→Bool
 | .n=>true
 | .r=>true
 | _=>false
theorem Gp{o:Oper}{r:g4}{v:ah}(ae:bj P pol f ρ h o=some r)(az:nt r=some (v,ai)) :
  ∃ l,cO pol f ρ o=some l∧Leaves l h ai∧((e2 o.op).quiet=true→ai=h)∧(e2 o.op=.n→l=[])∧(e2 o.op=.a→l=[]):=by
 obtain⟨G,hJ⟩:∃ G:Prop,G=(∃ l,cO pol f ρ o=some l∧Leaves l h ai∧((e2 o.op).quiet=true→ai=h)∧(e2 o.op=.n→l=[])∧(e2 o.op=.a→l=[])):=⟨_,rfl⟩
 rw[← hJ]
 have flag:∀ {x:Option ah},(match x with|some v=>some (g4.val v h)|none=>none)=some r→ai=h:=by
  intro x U
  cases x with
  | none=>simp at U
  | some y=>simp at U;subst U;simp[nt]at az;exact az.2.symm
 have same:ai=h→∀ l,cO pol f ρ o=some l→(e2 o.op=.n→l=[])→(e2 o.op=.a→l=[])→G:=by
  intro e l ao ad ag
  subst e
  rw[hJ]
  exact⟨l,ao,UL _ _,fun _=>rfl,ad,ag⟩
 have mk:∀ {x:aj},ai=h++x→cO pol f ρ o=some []→e2 o.op=.a→G:=by
  intro x e ax an
  subst e
  rw[hJ]
  exact⟨[],ax,ac1 _ _ _,fun aE=>by rw[an]at aE;simp[Kind.quiet]at aE,fun _=>rfl,fun _=>rfl⟩
 have wr:∀ {l:List Nat},cO pol f ρ o=some l→Leaves l h ai→e2 o.op=.w→G:=by
  intro l ax ao an
  rw[hJ]
  exact⟨l,ax,ao,fun aE=>(by rw[an]at aE;simp[Kind.quiet]at aE),fun e=>(by rw[an]at e;cases e),fun e=>(by rw[an]at e;cases e)⟩
 clear hJ
 cases aN:o.op with
 | move x=>simp only[bj,aN]at ae;cases ae;cases az;exact same rfl [] (by simp[cO,aN]) (fun _=>rfl) (fun _=>rfl)
 | assign x =>
  revert ae
  simp only[bj,aN]
  repeat' split
  all_goals(intro ae;cases ae)
  all_goals cases az
  all_goals first|exact same rfl [] (by simp[cO,aN]) (fun _=>rfl) (fun _=>rfl)|exact mk rfl (by simp[cO,aN]) (by simp[e2,aN])
 | pick c a b =>
  revert ae
  simp only[bj,aN]
  repeat' split
  all_goals(intro ae;cases ae)
  all_goals cases az
  all_goals exact same rfl [] (by simp[cO,aN]) (fun _=>rfl) (fun _=>rfl)
 | alloc t =>
  revert ae
  simp only[bj,aN]
  repeat' split
  all_goals(intro ae;cases ae)
  all_goals cases az
  all_goals exact mk rfl (by simp[cO,aN]) (by simp[e2,aN])
 | box t x =>
  revert ae
  simp only[bj,aN]
  repeat' split
  all_goals(intro ae;cases ae)
  all_goals cases az
  all_goals first|exact same rfl [] (by simp[cO,aN]) (fun _=>rfl) (fun _=>rfl)|exact mk rfl (by simp[cO,aN]) (by simp[e2,aN])
 | build t parts=>simp only[bj,aN]at ae;exact same (flag ae) [] (by simp[cO,aN]) (fun _=>rfl) (fun _=>rfl)
 | buildSlice t len parts =>
  revert ae
  simp only[bj,aN]
  repeat' split
  all_goals(intro ae;cases ae)
  all_goals cases az
  all_goals first|exact same rfl [] (by simp[cO,aN]) (fun _=>rfl) (fun _=>rfl)|exact mk rfl (by simp[cO,aN]) (by simp[e2,aN])
 | load t a=>simp only[bj,aN]at ae;exact same (flag ae) (cl (ρ a)) (by simp[cO,aN]) (by simp[e2,aN]) (by simp[e2,aN])
 | store t a x =>
  simp only[bj,aN]at ae
  split at ae
  ·rename_i ag J
   cases ae;cases az
   exact wr (by simp[cO,aN]) (agF J) (by simp[e2,aN])
  ·simp at ae
 | nilCheck x =>
  revert ae
  simp only[bj,aN]
  repeat' split
  all_goals(intro ae;cases ae)
  all_goals cases az
  all_goals exact same rfl [] (by simp[cO,aN]) (fun _=>rfl) (fun _=>rfl)
 | binOp op t x y cA=>simp only[bj,aN]at ae;exact same (flag ae) [] (by simp[cO,aN]) (fun _=>rfl) (fun _=>rfl)
 | unOp op t x =>
  revert ae
  simp only[bj,aN]
  repeat' split
  all_goals(intro ae;cases ae)
  all_goals cases az
  all_goals exact same rfl [] (by simp[cO,aN]) (fun _=>rfl) (fun _=>rfl)
 | convert s t x =>
  revert ae
  simp only[bj,aN]
  repeat' split
  all_goals(intro ae;cases ae)
  all_goals cases az
  all_goals exact same rfl [] (by simp[cO,aN]) (fun _=>rfl) (fun _=>rfl)
 | makeFunc fn first captured =>
  revert ae
  simp only[bj,aN]
  repeat' split
  all_goals(intro ae;cases ae)
  all_goals cases az
  all_goals exact same rfl [] (by simp[cO,aN]) (fun _=>rfl) (fun _=>rfl)
 | makeMap t qG =>
  cases qG with
  | none=>simp only[bj,aN]at ae;cases ae;cases az;exact mk rfl (by simp[cO,aN]) (by simp[e2,aN])
  | some _=>simp[bj,aN]at ae
 | makeSlice t l c =>
  revert ae
  simp only[bj,aN]
  repeat' split
  all_goals(intro ae;cases ae)
  all_goals cases az
  all_goals first|exact same rfl [] (by simp[cO,aN]) (fun _=>rfl) (fun _=>rfl)|exact mk rfl (by simp[cO,aN]) (by simp[e2,aN])
 | slice t x lo hi gM=>simp only[bj,aN]at ae;exact same (flag ae) [] (by simp[cO,aN]) (fun _=>rfl) (fun _=>rfl)
 | fieldAddr s x qc=>simp only[bj,aN]at ae;exact same (flag ae) [] (by simp[cO,aN]) (fun _=>rfl) (fun _=>rfl)
 | field s x qc =>
  simp only[bj,aN]at ae
  split at ae
  ·exact same (flag ae) [] (by simp[cO,aN]) (fun _=>rfl) (fun _=>rfl)
  ·simp at ae
 | indexAddr t x ix=>simp only[bj,aN]at ae;exact same (flag ae) [] (by simp[cO,aN]) (fun _=>rfl) (fun _=>rfl)
 | index t x ix=>simp only[bj,aN]at ae;exact same (flag ae) [] (by simp[cO,aN]) (fun _=>rfl) (fun _=>rfl)
 | lookup t x ix ok=>simp only[bj,aN]at ae;exact same (flag ae) (cl (ρ x)) (by simp[cO,aN]) (by simp[e2,aN]) (by simp[e2,aN])
 | mapUpdate t m k x =>
  simp only[bj,aN]at ae
  split at ae
  ·rename_i ag J
   cases ae;cases az
   exact wr (by simp[cO,aN]) (W6 J) (by simp[e2,aN])
  ·simp at ae
 | insert t m k x =>
  simp only[bj,aN]at ae
  split at ae
  ·rename_i ag J
   cases ae;cases az
   exact wr (by simp[cO,aN]) (W6 J) (by simp[e2,aN])
  ·simp at ae
 | extract x i =>
  simp only[bj,aN]at ae
  split at ae
  ·split at ae
   ·cases ae;cases az;exact same rfl [] (by simp[cO,aN]) (fun _=>rfl) (fun _=>rfl)
   ·simp at ae
  ·exact same (flag ae) [] (by simp[cO,aN]) (fun _=>rfl) (fun _=>rfl)
  ·simp at ae
 | call c =>
  simp only[bj,aN]at ae
  split at ae
  ·rename_i b ab
   revert ae
   unfold mI
   split
   ·repeat' split
    all_goals(intro ae;cases ae)
    all_goals cases az
    all_goals exact same rfl (c.args.toList.flatMap fun a=>cl (ρ a)) (by simp[cO,aN,ab]) (by simp[e2,aN,ab]) (by simp[e2,aN,ab])
   ·rename_i s x lj
    repeat' split
    all_goals(intro ae;cases ae)
    all_goals cases az
    rename_i ax
    refine wr (l:=c.args.toList.flatMap fun a=>cl (ρ a)) (by simp[cO,aN,ab]) ?_ (by simp[e2,aN,ab])
    have e:(c.args.toList.flatMap fun a=>cl (ρ a))=cl s++cl x:=by
     have:(c.args.toList.flatMap fun a=>cl (ρ a))=(c.args.toList.map ρ).flatMap cl:=by simp[List.flatMap_map]
     rw[this,lj];simp
    rw[e]
    exact ago ax
   ·rename_i s x lj
    repeat' split
    all_goals(intro ae;cases ae)
    all_goals cases az
    rename_i ax
    refine wr (l:=c.args.toList.flatMap fun a=>cl (ρ a)) (by simp[cO,aN,ab]) ?_ (by simp[e2,aN,ab])
    have e:(c.args.toList.flatMap fun a=>cl (ρ a))=cl s++cl x:=by
     have:(c.args.toList.flatMap fun a=>cl (ρ a))=(c.args.toList.map ρ).flatMap cl:=by simp[List.flatMap_map]
     rw[this,lj];simp
    rw[e]
    exact agu ax
   ·intro ae;cases ae;cases az;exact same rfl [] (by simp[cO,aN,ab]) (fun _=>rfl) (fun _=>rfl)
   ·intro ae;cases ae;cases az;exact same rfl [] (by simp[cO,aN,ab]) (fun _=>rfl) (fun _=>rfl)
   ·intro ae;cases ae
  ·rename_i x U
   exfalso
   revert ae
   unfold nH Dt
   repeat' split
   all_goals(intro ae;cases ae)
   all_goals cases az
  ·simp at ae
 | _=>simp[bj,aN]at ae
end Go.Abs
/- The orders that a region may draw: each lists every operation once,behind those that it waits for. -/
namespace Go.Abs
open Go
variable{ops:Array Oper}
def Valid(ops:Array Oper):(Nat→Prop)→List Nat→Prop
 | S,[]=>∀ i,i<ops.size→S i
 | S,i::l=>¬ S i∧(∃ o,ops[i]? = some o∧∀ e∈o.after,Region.binds .any e=true→S e.on)∧Valid ops (fun j=>S j∨j=i) l
theorem Valid.congr{S S':Nat→Prop}{l:List Nat}(J:∀ i,S i↔S' i)(az:Valid ops S l):Valid ops S' l:=by
 have:S=S':=funext fun i=>propext (J i)
 exact this ▸ az
def AA(l:Array Bool):Nat:=l.toList.countP (fun b=>!b)
theorem az4{l:Array Bool}{i:Nat}(hi:l[i]? = some false):AA l=AA (l.setIfInBounds i true)+1:=by
 unfold AA
 rw[Array.toList_setIfInBounds]
 have ai:l.toList[i]? = some false:=by simpa using hi
 clear hi
 generalize l.toList=xs at ai
 induction xs generalizing i with
 | nil=>simp at ai
 | cons x xs au =>
  cases i with
  | zero=>simp at ai;subst ai;simp
  | succ i =>
   have:=au (i:=i) (by simpa using ai)
   simp only[w8,List.countP_cons]
   omega
theorem akC{l:Array Bool}(hu:0<AA l):∃ i:Nat,l[i]? = some false∧∀ j:Nat,j<i→l[j]? = some true:=by
 unfold AA at hu
 have key:∀ xs:List Bool,0<xs.countP (fun b=>!b)→∃ i:Nat,xs[i]? = some false∧∀ j:Nat,j<i→xs[j]? = some true:=by
  intro xs
  induction xs with
  | nil=>intro h;simp at h
  | cons x xs au =>
   intro h
   cases x with
   | false=>exact⟨0,rfl,fun j aU=>by omega⟩
   | true =>
    obtain⟨i,ad,ag⟩:=au (by simpa using h)
    refine⟨i+1,by simpa using ad,fun j aU=>?_⟩
    cases j with
    | zero=>rfl
    | succ j=>simpa using ag j (by omega)
 obtain⟨i,ad,ag⟩:=key l.toList hu
 exact⟨i,by simpa using ad,fun j aU=>by simpa using ag j aU⟩
theorem alM(Rj:∀(i:Nat) o,ops[i]? = some o→∀ e∈o.after,Region.binds .any e=true→e.on<i):∀(fuel t:Nat) (o8:Array Bool) (acc:List Nat),o8.size=ops.size→AA o8=fuel →
  ∃ l,Region.linearise.go .any ops fuel t o8 acc=acc.reverse++l∧Valid ops (fun i=>o8.getD i false=true) l:=by
 intro fuel
 induction fuel with
 | zero =>
  intro t o8 acc J hu
  refine⟨[],by simp[Region.linearise.go],fun i hi=>?_⟩
  have fz:i<o8.size:=by omega
  unfold AA at hu
  rw[List.countP_eq_zero]at hu
  have:=hu o8[i] (by simp)
  show o8.getD i false=true
  rw[r6,OO fz]
  simpa using this
 | succ fuel au =>
  intro t o8 acc J hu
  simp only[Region.linearise.go]
  generalize hh:(List.range ops.size).filter (fun i=>!o8.getD i true && ((ops[i]?).map (·.after.all fun e=>!Region.binds .any e || o8.getD e.on false)).getD false)=rs
  have eo:rs≠[]:=by
   obtain⟨i,ad,ag⟩:=akC (l:=o8) (by omega)
   have hi:i<ops.size:=by rw[← J];exact(s6.1 ad).1
   have hm:i∈rs:=by
    rw[← hh,AT]
    refine⟨by simp[hi],?_⟩
    have aC:ops[i]? = some ops[i]:=by simp[hi]
    simp only[r6,ad,aC,na,r5,qT,ur]
    rw[ON]
    intro e he
    by_cases ab:Region.binds .any e=true
    ·have:=ag _ (Rj i _ aC e he ab)
     simp[this]
    ·simp[ab]
   intro e
   rw[e]at hm
   cases hm
  have aB:t % rs.length<rs.length:=mF _ (OX.2 eo)
  rw[fC aB]
  simp only
  have mT:rs[t % rs.length]∈rs:=oP aB
  generalize rs[t % rs.length]=i at mT
  rw[← hh,AT]at mT
  obtain⟨hi,af⟩:=mT
  have hi:i<ops.size:=by simpa using hi
  have fz:i<o8.size:=by omega
  have aC:ops[i]? = some ops[i]:=by simp[hi]
  simp only[fe]at af
  have aI:o8[i]? = some false:=by
   have:=af.1
   rw[r6,OO fz]at this
   rw[OO fz]
   simpa using this
  obtain⟨l,ao,az⟩:=au (t / rs.length) (o8.setIfInBounds i true) (i::acc) (by simp[J]) (by have:=az4 aI;omega)
  refine⟨i::l,by rw[ao];simp,?_,⟨_,aC,fun e he ab=>?_⟩,az.congr fun j=>?_⟩
  ·simp[r6,aI]
  ·have ag:=af.2
   rw[aC]at ag
   simp only[r5,na]at ag
   rw[ON]at ag
   have:=ag e he
   simpa[ab]using this
  ·show(o8.setIfInBounds i true).getD j false=true↔o8.getD j false=true∨j=i
   rw[r6,r6,yZ]
   by_cases aU:i=j
   ·subst aU;simp[fz]
   ·have tz:¬ j=i:=fun e=>aU e.symm
    simp[aU,tz]
theorem axV(Rj:∀(i:Nat) o,ops[i]? = some o→∀ e∈o.after,Region.binds .any e=true→e.on<i)(t:Nat):Valid ops (fun _=>False) (Region.schedule true ops t):=by
 obtain⟨l,ao,az⟩:=alM Rj ops.size t (Array.replicate ops.size false) [] (by simp) (by simp[AA,List.countP_replicate])
 have e:Region.schedule true ops t=l:=by
  simp only[Region.schedule,Ke,cQ,Region.linearise]
  rw[ao];simp
 rw[e]
 refine az.congr fun i=>?_
 show(Array.replicate ops.size false).getD i false=true↔False
 rw[r6,Array.getElem?_replicate]
 split<;>simp
end Go.Abs
/- What is asked of a region that draws its order,and the trace of its run in the order of the text. -/
namespace Go.Abs
open Go
variable{P:Program}{pol:c4}{K:eZ}{I:eY}{f:FuncId}{ops:Array Oper}
inductive uc(ops:Array Oper):Nat→Nat→Prop
 | KL (j:Nat) (o:Oper) (e:Edge) (aC:ops[j]? = some o) (he:e∈o.after) (ab:Region.binds .any e=true):uc ops e.on j
 | trans (i j:Nat) (o:Oper) (e:Edge) (aC:ops[j]? = some o) (he:e∈o.after) (ab:Region.binds .any e=true) (h:uc ops i e.on):uc ops i j
def oW(ops:Array Oper)(i:Nat):Option Tmp:=(ops[i]?).bind (·.dst)
def azC:Operand→Option Tmp
 | .tmp t=>some t
 | _=>none
def sH(ops:Array Oper)(o:Oper):List Tmp :=
 o.dst.toList++o.op.operands.toList.filterMap azC++(match o.guard with|some (g,_)=>(oW ops g).toList|none=>[])
def Kind.GF:Kind→Kind→Bool
 | .n,_=>false
 | _,.n=>false
 | .r,.r=>false
 | .a,.a=>false
 | _,_=>true
def ajY(ops:Array Oper):Bool :=
 (List.range ops.size).all fun j=>match ops[j]? with
  | some o=>o.after.all fun e=>!Region.binds .any e || decide (e.on<j)
  | none=>true
def atA(ops:Array Oper)(m:Array Nat):Bool :=
 (List.range ops.size).all fun j=>match ops[j]? with
  | some o=>(List.range j).all fun i=>!(m.getD j 0).testBit i || o.after.any fun e=>Region.binds .any e && (e.on == i || (decide (i<e.on) && (m.getD e.on 0).testBit i))
  | none=>true
def azs(ops:Array Oper)(m:Array Nat):Bool :=
 (List.range ops.size).all fun j=>match ops[j]? with
  | some o=>(List.range ops.size).all fun i=>i == j || (match oW ops i with
   | some d=>!(sH ops o).contains d || (m.getD (max i j) 0).testBit (min i j)
   | none=>true)
  | none=>true
def ajy(fj:List (Nat × Nat))(ops:Array Oper)(m:Array Nat):Bool :=
 (List.range ops.size).all fun j=>match ops[j]? with
  | some o=>(List.range j).all fun i=>match ops[i]? with
   | some p=>!(e2 p.op).GF (e2 o.op) || (m.getD j 0).testBit i || fj.contains (i,j)
   | none=>true
  | none=>true
def n3(fj:List (Nat × Nat))(ops:Array Oper):Bool :=
 ajY ops && atA ops (Region.before ops) && azs ops (Region.before ops) && ajy fj ops (Region.before ops)
structure WI(fj:List (Nat × Nat))(ops:Array Oper):Prop where
 KM:∀(i:Nat) o,ops[i]? = some o→∀ e∈o.after,Region.binds .any e=true→e.on<i
 azr:∀(i j:Nat) o d,ops[j]? = some o→i≠j→oW ops i=some d→d∈sH ops o→(i<j∧uc ops i j)∨(j<i∧uc ops j i)
 cover:∀(i j:Nat) p o,ops[i]? = some p→ops[j]? = some o→i<j→(e2 p.op).GF (e2 o.op)=true→uc ops i j∨(i,j)∈fj
theorem o9{i:Nat}{o:Oper}(h:ops[i]? = some o):i<ops.size:=(s6.1 h).1
theorem aw1{fj:List (Nat × Nat)}(h:n3 fj ops=true):WI fj ops:=by
 simp only[n3,fe]at h
 obtain⟨⟨⟨ad,ag⟩,aJ⟩,bL⟩:=h
 have KM:∀(i:Nat) o,ops[i]? = some o→∀ e∈o.after,Region.binds .any e=true→e.on<i:=by
  intro i o aC e he ab
  have:=jY.1 ad i (by simp[o9 aC])
  simp only[aC,ON]at this
  have:=this e he
  simpa[ab]using this
 have U1:∀(j i:Nat),j<ops.size→i<j→((Region.before ops).getD j 0).testBit i=true→uc ops i j:=by
  intro j
  induction j using Nat.strongRecOn with
  | _ j au =>
   intro i aU hi ab
   have aC:ops[j]? = some ops[j]:=by simp[aU]
   have:=jY.1 ag j (by simp[aU])
   simp only[aC,jY]at this
   have:=this i (by simp[hi])
   simp only[ab,vx,Gb,Array.any_eq_true]at this
   obtain⟨k,an,D1⟩:=this
   simp only[fe,uy,AU,ho]at D1
   obtain⟨Q5,LC⟩:=D1
   have mT:ops[j].after[k]∈ops[j].after:=Array.getElem_mem _
   rcases LC with e|⟨fz,cS⟩
   ·rw[← e];exact .KL j _ _ aC mT Q5
   ·have aB:=KM j _ aC _ mT Q5
    exact .trans i j _ _ aC mT Q5 (au _ aB i (by omega) fz cS)
 refine⟨KM,fun i j o d aC gY aF aw=>?_,fun i j p o av aC gY af=>?_⟩
 ·have hi:i<ops.size:=by
   unfold oW at aF
   cases U:ops[i]? with
   | none=>simp[U]at aF
   | some p=>exact o9 U
  have:=jY.1 aJ j (by simp[o9 aC])
  simp only[aC,jY]at this
  have:=this i (by simp[hi])
  simp only[aF,uy,AU,gY,false_or]at this
  have ab:((Region.before ops).getD (max i j) 0).testBit (min i j)=true:=by simpa[aw]using this
  by_cases ao:i<j
  ·rw[Nat.max_eq_right (by omega),J4 (by omega)]at ab
   exact .inl ⟨ao,U1 j i (o9 aC) ao ab⟩
  ·have ao:j<i:=by omega
   rw[Nat.max_eq_left (by omega),Pg (by omega)]at ab
   exact .inr ⟨ao,U1 i j hi ao ab⟩
 ·have:=jY.1 bL j (by simp[o9 aC])
  simp only[aC,jY]at this
  have:=this i (by simp[gY])
  simp only[av,af,vx,Gb,uy]at this
  rcases this with ab|hm
  ·exact .inl (U1 j i (o9 aC) gY ab)
  ·exact .inr (by simpa using hm)
end Go.Abs
/- The trace of a region's run in the order of the text. -/
namespace Go.Abs
open Go
variable{P:Program}{pol:c4}{K:eZ}{I:eY}{f:FuncId}{ops:Array Oper}
inductive FW(P:Program)(pol:c4)(K:eZ)(I:eY)(f:FuncId)(o:Oper)(ρ:Operand→ah)(h:aj)(v:ah)(ai:aj):Prop
 | plain (r:g4) (ae:bj P pol f ρ h o=some r) (az:nt r=some (v,ai))
 | pure (g:FuncId) (args:List ah) (aq:List T) (r:T) (ae:bj P pol f ρ h o=some (.call (.fn g) args)) (ax:cO pol f ρ o=some []) (dI:e6 args=some aq) (al:K g aq=some r) (az:v=.t r) (aY:ai=h)
 | fresh (g:FuncId) (args:List ah) (aq:List T) (ag:aj) (ae:bj P pol f ρ h o=some (.call (.fn g) args)) (ax:cO pol f ρ o=some []) (dI:e6 args=some aq) (al:alive (I (.fn g) args (List.replicate h.length .gone))=some (v,ag))
   (ao:h.length≤ag.length) (gX:cL (kB h.length) v=true) (iA:oQ (kB h.length) (ag.drop h.length)=true) (aY:ai=h++ag.drop h.length)
 | DI (g:FuncId) (args:List ah) (aq:List T) (ag:aj) (ae:bj P pol f ρ h o=some (.call (.fn g) args)) (ax:cO pol f ρ o=some (jF args)) (dI:b5 (snap h (z8 (jF args)) 20) args=some aq)
   (al:alive (I (.fn g) (aq.map .t) (List.replicate h.length .gone))=some (v,ag)) (ao:h.length≤ag.length) (gX:cL (kB h.length) v=true) (iA:oQ (kB h.length) (ag.drop h.length)=true)
   (kI:kK v=true) (lP:np (ag.drop h.length)=true) (aY:ai=h++ag.drop h.length)
 | full (g:sY) (args:List ah) (ae:bj P pol f ρ h o=some (.call g args)) (ax:cO pol f ρ o=none) (af:iw pol K I f (o.dst.getD 0) g args h=some (v,ai))
theorem ay3{o:Oper}{env bz:Env}{h ai:aj}(J:lK P pol K I f o env h=some (bz,ai)):∃ v,bz=put env o.dst v∧FW P pol K I f o (g7 pol env) h v ai:=by
 unfold lK at J
 split at J
 ·rename_i v ag ae
  simp at J
  obtain⟨rfl,rfl⟩:=J
  exact⟨v,rfl,.plain _ ae rfl⟩
 ·rename_i ag ae
  simp at J
  obtain⟨rfl,rfl⟩:=J
  exact⟨_,rfl,.plain _ ae rfl⟩
 ·rename_i g args ae
  split at J
  ·rename_i v ag af
   simp at J
   obtain⟨rfl,rfl⟩:=J
   refine⟨v,rfl,?_⟩
   obtain⟨c,x,aC,gf,amB⟩:=lJ ae
   cases ax:cO pol f (g7 pol env) o with
   | none=>exact .full g args ae ax af
   | some l =>
    have jN:=ax
    simp only[cO,aC,gf,amB]at ax
    cases g with
    | bF q=>simp at ax
    | fn g =>
     simp only at ax
     split at ax
     ·simp at ax
     ·rename_i LA
      split at ax
      ·rename_i aq dI
       simp at ax
       subst ax
       simp only[iw]at af
       rw[a2 (by simp[LA])]at af
       simp only[dI]at af
       split at af
       ·obtain⟨aJ,dT,ao,gX,iA,e⟩:=KZ af
        exact .fresh g args aq aJ ae jN dI dT ao gX iA e
       split at af
       ·rename_i r al
        simp at af
        exact .pure g args aq r ae jN dI al af.1.symm af.2.symm
       ·simp at af
      ·rename_i dI
       split at ax
       ·rename_i iC
        simp at ax
        subst ax
        simp only[iw]at af
        rw[a2 (by simp[LA])]at af
        simp only[dI]at af
        rw[a6 iC]at af
        split at af
        ·rename_i aq hm
         obtain⟨aJ,dT,ao,gX,iA,kI,lP,e⟩:=Qn af
         exact .DI g args aq aJ ae jN hm dT ao gX iA kI lP e
        ·simp at af
       ·simp at ax
  ·simp at J
 ·simp at J
structure Trace(P:Program)(pol:c4)(K:eZ)(I:eY)(f:FuncId)(ops:Array Oper)(E:Nat→Env)(H:Nat→aj)(fc:Nat→Option (List Nat)):Prop where
 step:∀(j:Nat) o,ops[j]? = some o→∃ b v,mN ops.toList (E j) o.guard=some b∧E (j+1)=put (E j) o.dst v∧(H j).length≤(H (j+1)).length ∧
  ((b=true∧FW P pol K I f o (g7 pol (E j)) (H j) v (H (j+1))∧fc j=sP (cO pol f (g7 pol (E j)) o) (H j) (H (j+1))) ∨
   (b=false∧v=.t (.aA undef)∧H (j+1)=H j∧fc j=some []))
theorem azS:∀(rest:List Oper) (k:Nat) (env:Env) (h:aj) (bz:Env) (ai:aj) (aq:List (Option (List Nat))),pD P pol K I f ops.toList rest env h=some (bz,ai,aq)→(∀ j:Nat,rest[j]? = ops[k+j]?) →
  ∃(E:Nat→Env) (H:Nat→aj),E 0=env∧H 0=h∧E rest.length=bz∧H rest.length=ai∧aq.length=rest.length ∧
   ∀(j:Nat) o,rest[j]? = some o→∃ b v,mN ops.toList (E j) o.guard=some b∧E (j+1)=put (E j) o.dst v∧(H j).length≤(H (j+1)).length ∧
  ((b=true∧FW P pol K I f o (g7 pol (E j)) (H j) v (H (j+1))∧aq.getD j none=sP (cO pol f (g7 pol (E j)) o) (H j) (H (j+1))) ∨
   (b=false∧v=.t (.aA undef)∧H (j+1)=H j∧aq.getD j none=some [])):=by
 intro rest
 induction rest with
 | nil =>
  intro k env h bz ai aq J _
  simp[pD]at J
  obtain⟨rfl,rfl,rfl⟩:=J
  exact⟨fun _=>env,fun _=>h,rfl,rfl,rfl,rfl,rfl,fun j o aC=>by simp at aC⟩
 | cons o rest au =>
  intro k env h bz ai aq J an
  have h4:∀ j:Nat,rest[j]? = ops[k+1+j]?:=fun j=>by
   have:=an (j+1)
   simpa[uq,Gh 1 j]using this
  have glue:∀(eg:Env) (ad:aj) (Oa:List (Option (List Nat))) (t0:Option (List Nat)) (b:Bool) (v:ah),pD P pol K I f ops.toList rest eg ad=some (bz,ai,Oa)→aq=t0::Oa→mN ops.toList env o.guard=some b →
    eg=put env o.dst v→h.length≤ad.length→((b=true∧FW P pol K I f o (g7 pol env) h v ad∧t0=sP (cO pol f (g7 pol env) o) h ad)∨(b=false∧v=.t (.aA undef)∧ad=h∧t0=some [])) →
    ∃(E:Nat→Env) (H:Nat→aj),E 0=env∧H 0=h∧E (o::rest).length=bz∧H (o::rest).length=ai∧aq.length=(o::rest).length ∧
   ∀(j:Nat) cC,(o::rest)[j]? = some cC→∃ b v,mN ops.toList (E j) cC.guard=some b∧E (j+1)=put (E j) cC.dst v∧(H j).length≤(H (j+1)).length ∧
  ((b=true∧FW P pol K I f cC (g7 pol (E j)) (H j) v (H (j+1))∧aq.getD j none=sP (cO pol f (g7 pol (E j)) cC) (H j) (H (j+1))) ∨
   (b=false∧v=.t (.aA undef)∧H (j+1)=H j∧aq.getD j none=some [])):=by
   intro eg ad Oa t0 b v al ax ay he ao af
   obtain⟨E,H,aT,aW,bw,cB,bZ,hW⟩:=au (k+1) eg ad bz ai Oa al h4
   refine⟨fun j=>match j with|0=>env|j+1=>E j,fun j=>match j with|0=>h|j+1=>H j,rfl,rfl,bw,cB,by simp[ax,bZ],fun j cC gv=>?_⟩
   cases j with
   | zero =>
    simp at gv
    subst gv
    refine⟨b,v,ay,by simp only[aT,he],by simp only[aW];exact ao,?_⟩
    simp only[aW,ax]
    exact af
   | succ j =>
    have:=hW j cC (by simpa using gv)
    simp only[ax]
    exact this
  simp only[pD]at J
  split at J
  ·rename_i b ab
   split at J
   ·rename_i q7
    subst q7
    split at J
    ·rename_i eg ad mn
     split at J
     ·simp at J
     ·rename_i hlen
      split at J
      ·rename_i hx ag V9 uQ
       simp at J
       obtain⟨rfl,rfl,rfl⟩:=J
       obtain⟨v,LJ,LK⟩:=ay3 mn
       exact glue eg ad V9 _ true v uQ rfl ab LJ (by omega) (.inl ⟨rfl,LK,rfl⟩)
      ·simp at J
    ·simp at J
   ·rename_i Q4
    have Q4:b=false:=by simpa using Q4
    subst Q4
    split at J
    ·rename_i hx ag V9 uQ
     simp at J
     obtain⟨rfl,rfl,rfl⟩:=J
     exact glue _ h V9 _ false _ uQ rfl ab rfl (bP _) (.inr ⟨rfl,rfl,rfl,rfl⟩)
    ·simp at J
  ·simp at J
theorem azT{env bz:Env}{h ai:aj}{aq:List (Option (List Nat))}(J:pD P pol K I f ops.toList ops.toList env h=some (bz,ai,aq)) :
  ∃(E:Nat→Env) (H:Nat→aj),E 0=env∧H 0=h∧E ops.size=bz∧H ops.size=ai∧Trace P pol K I f ops E H (fun j=>aq.getD j none):=by
 obtain⟨E,H,aT,aW,bw,cB,_,hW⟩:=azS ops.toList 0 env h bz ai aq J (fun j=>by simp)
 exact⟨E,H,aT,aW,by simpa using bw,by simpa using cB,⟨fun j o aC=>hW j o (by simpa using aC)⟩⟩
section
variable{E:Nat→Env}{H:Nat→aj}{fc:Nat→Option (List Nat)}(g2:Trace P pol K I f ops E H fc)
def m9(ops:Array Oper)(fc:Nat→Option (List Nat))(i q:Nat):Prop:=∃ o,ops[i]? = some o∧(e2 o.op).quiet=false∧(fc i=none∨∃ l,fc i=some l∧q∈l)
include g2
theorem Trace.len(i j:Nat)(gY:i≤j)(aU:j≤ops.size):(H i).length≤(H j).length:=by
 induction j with
 | zero=>have:i=0:=by omega
         subst this;exact bP _
 | succ j au =>
  by_cases h:i=j+1
  ·subst h;exact bP _
  ·have aB:j<ops.size:=by omega
   obtain⟨b,v,_,_,ao,_⟩:=g2.step j ops[j] (by simp[aB])
   exact kP (au (by omega) (by omega)) ao
theorem Trace.Ya(j:Nat)(aU:j≤ops.size):(E j).length=(E 0).length:=by
 induction j with
 | zero=>rfl
 | succ j au =>
  have aB:j<ops.size:=by omega
  obtain⟨b,v,_,he,_⟩:=g2.step j ops[j] (by simp[aB])
  rw[he]
  have:∀(env:Env) (d:Option Tmp),(put env d v).length=env.length:=by intro env d;cases d<;>simp[put]
  rw[this,au (by omega)]
theorem Trace.Yc{k j t:Nat}(zF:k≤j)(aU:j≤ops.size)(aw:∀ i,k≤i→i<j→oW ops i≠some t):(E j)[t]? = (E k)[t]?:=by
 induction j with
 | zero=>have:k=0:=by omega
         subst this;rfl
 | succ j au =>
  by_cases h:k=j+1
  ·subst h;rfl
  ·have aB:j<ops.size:=by omega
   have aC:ops[j]? = some ops[j]:=by simp[aB]
   obtain⟨b,v,_,he,_⟩:=g2.step j ops[j] aC
   rw[he,← au (by omega) (by omega) (fun i ad ag=>aw i ad (by omega))]
   have aF:=aw j (by omega) (by omega)
   simp only[oW,aC,AP]at aF
   cases Lm:ops[j].dst with
   | none=>rfl
   | some d =>
    rw[Lm]at aF
    simp only[put]
    rw[iv (fun e=>aF (by rw[e]))]
theorem Trace.frame{j q:Nat}{o:Oper}(aC:ops[j]? = some o)(aw:¬ m9 ops fc j q):(H (j+1))[q]? = (H j)[q]?:=by
 obtain⟨b,v,_,_,ao,xE⟩:=g2.step j o aC
 rcases xE with⟨_,an,ax⟩|⟨_,_,uK,_⟩
 ·cases an with
  | pure g args aq r ae jC dI al az aY=>rw[aY]
  | fresh g args aq ag ae jC dI al eC gX iA aY =>
   obtain⟨c,x,aN,gf,_⟩:=lJ ae
   rw[jC]at ax
   have tB:q ∉ List.range' (H j).length ((H (j+1)).length-(H j).length):=fun hm=>aw ⟨o,aC,by simp[e2,aN,gf,Kind.quiet],.inr ⟨_,ax,by simpa using hm⟩⟩
   by_cases aB:q<(H j).length
   ·rw[aY,fv aB]
   ·have:¬ q<(H (j+1)).length:=fun k0=>tB (by simp[r2];omega)
    rw[kb (by omega),kb (by omega)]
  | DI g args aq ag ae jC dI al eC gX iA kI lP aY =>
   obtain⟨c,x,aN,gf,_⟩:=lJ ae
   rw[jC]at ax
   have tB:q ∉ List.range' (H j).length ((H (j+1)).length-(H j).length):=fun hm=>aw ⟨o,aC,by simp[e2,aN,gf,Kind.quiet],.inr ⟨_,ax,y6 _ hm⟩⟩
   by_cases aB:q<(H j).length
   ·rw[aY,fv aB]
   ·have:¬ q<(H (j+1)).length:=fun k0=>tB (by simp[r2];omega)
    rw[kb (by omega),kb (by omega)]
  | full g args ae jC af =>
   exfalso
   obtain⟨c,x,aN,gf,_⟩:=lJ ae
   exact aw ⟨o,aC,by simp[e2,aN,gf,Kind.quiet],.inl (by rw[ax,jC];rfl)⟩
  | plain r ae az =>
   obtain⟨l,ad,ag,aJ,_⟩:=Gp ae az
   by_cases aE:(e2 o.op).quiet=true
   ·rw[aJ aE]
   ·have rj:(e2 o.op).quiet=false:=by simpa using aE
    rw[ad]at ax
    have tB:q ∉ l++List.range' (H j).length ((H (j+1)).length-(H j).length):=fun hm=>aw ⟨o,aC,rj,.inr ⟨_,ax,hm⟩⟩
    by_cases aB:q<(H j).length
    ·exact ag.2 q aB (fun hm=>tB (by simp[hm]))
    ·have:¬ q<(H (j+1)).length:=fun k0=>tB (by simp[r2];omega)
     rw[kb (by omega),kb (by omega)]
 ·rw[uK]
theorem Trace.Zm{k j q:Nat}(zF:k≤j)(aU:j≤ops.size)(aw:∀ i,k≤i→i<j→¬ m9 ops fc i q):(H j)[q]? = (H k)[q]?:=by
 induction j with
 | zero=>have:k=0:=by omega
         subst this;rfl
 | succ j au =>
  by_cases h:k=j+1
  ·subst h;rfl
  ·have aB:j<ops.size:=by omega
   have aC:ops[j]? = some ops[j]:=by simp[aB]
   rw[g2.frame aC (aw j (by omega) (by omega)),au (by omega) (by omega) (fun i ad ag=>aw i ad (by omega))]
theorem Trace.news{j q:Nat}{o:Oper}(aC:ops[j]? = some o)(ad:(H j).length≤q)(ag:q<(H (j+1)).length):m9 ops fc j q:=by
 obtain⟨b,v,_,_,ao,xE⟩:=g2.step j o aC
 rcases xE with⟨_,an,ax⟩|⟨_,_,uK,_⟩
 ·cases an with
  | pure g args aq r ae jC dI al az aY=>rw[aY]at ag;omega
  | fresh g args aq aJ ae jC dI al eC gX iA aY =>
   obtain⟨c,x,aN,gf,_⟩:=lJ ae
   rw[jC]at ax
   exact⟨o,aC,by simp[e2,aN,gf,Kind.quiet],.inr ⟨_,ax,by simp[r2];omega⟩⟩
  | DI g args aq aJ ae jC dI al eC gX iA kI lP aY =>
   obtain⟨c,x,aN,gf,_⟩:=lJ ae
   rw[jC]at ax
   exact⟨o,aC,by simp[e2,aN,gf,Kind.quiet],.inr ⟨_,ax,y6 _ (by simp[r2];omega)⟩⟩
  | full g args ae jC af =>
   obtain⟨c,x,aN,gf,_⟩:=lJ ae
   exact⟨o,aC,by simp[e2,aN,gf,Kind.quiet],.inl (by rw[ax,jC];rfl)⟩
  | plain r ae az =>
   obtain⟨l,a3,a7,cz,_⟩:=Gp ae az
   by_cases aE:(e2 o.op).quiet=true
   ·rw[cz aE]at ag;omega
   ·rw[a3]at ax
    exact⟨o,aC,by simpa using aE,.inr ⟨_,ax,by simp[r2];omega⟩⟩
 ·rw[uK]at ag;omega
end
end Go.Abs
/- Regions that draw their order: whatever order is drawn,the machine comes to where the order of the text leads. -/
namespace Go.Abs
open Go
variable{P:Program}{pol:c4}{K:eZ}{I:eY}{f:FuncId}{ops:Array Oper}{fj:List (Nat × Nat)}{E:Nat→Env}{H:Nat→aj}{fc:Nat→Option (List Nat)}{S:Nat→Prop}
def um(fc:Nat→Option (List Nat))(i q:Nat):Prop:=fc i=none∨∃ l,fc i=some l∧q∈l
theorem m9.tch{i q:Nat}(h:m9 ops fc i q):um fc i q:=let⟨_,_,_,aJ⟩:=h;aJ
theorem Xg{s t:Option (List Nat)}{q:Nat}(ae:r9 s t=true)(J:s=none∨∃ l,s=some l∧q∈l)(ax:t=none∨∃ l,t=some l∧q∈l):False:=by
 rcases J with rfl|⟨a,rfl,nU⟩
 ·rcases ax with rfl|⟨b,rfl,cS⟩
  ·simp[r9]at ae
  ·cases b with
   | nil=>simp at cS
   | cons x b=>simp[r9]at ae
 ·cases a with
  | nil=>simp at nU
  | cons x a =>
   rcases ax with rfl|⟨b,rfl,cS⟩
   ·simp[r9]at ae
   ·cases b with
    | nil=>simp at cS
    | cons y b =>
     simp only[r9,jY]at ae
     have:=ae q nU
     simp[cS]at this
theorem ai6(x y:Kind):x.GF y=y.GF x:=by cases x<;>cases y<;>rfl
theorem akB(p:Nat→Prop)(n:Nat):∃ k,k≤n∧(∀ i,i<n→p i→i<k)∧(k=0∨∃ i,k=i+1∧p i):=by
 induction n with
 | zero=>exact⟨0,bP _,fun i hi=>by omega,.inl rfl⟩
 | succ n au =>
  obtain⟨k,ad,ag,aJ⟩:=au
  by_cases av:p n
  ·exact⟨n+1,bP _,fun i hi _=>hi,.inr ⟨n,rfl,av⟩⟩
  ·refine⟨k,by omega,fun i hi vU=>?_,aJ⟩
   by_cases h:i=n
   ·subst h;exact absurd vU av
   ·exact ag i (by omega) vU
def mD(S p:Nat→Prop)(k:Nat):Prop:=(∀ i,S i→p i→i<k)∧(k=0∨∃ i,k=i+1∧S i∧p i)
theorem mD.exists(cE:∀ i,S i→i<ops.size)(p:Nat→Prop):∃ k,mD S p k:=by
 obtain⟨k,_,ag,aJ⟩:=akB (fun i=>S i∧p i) ops.size
 exact⟨k,fun i J av=>ag i (cE i J) ⟨J,av⟩,aJ⟩
def Real(H:Nat→aj)(S:Nat→Prop)(q:Nat):Prop:=q<(H 0).length∨∃ i,S i∧(H i).length≤q∧q<(H (i+1)).length
theorem P8{j q:Nat}(aE:q<(H j).length):q<(H 0).length∨∃ i,i<j∧(H i).length≤q∧q<(H (i+1)).length:=by
 induction j with
 | zero=>exact .inl aE
 | succ j au =>
  by_cases h:q<(H j).length
  ·rcases au h with h|⟨i,ad,ag⟩
   ·exact .inl h
   ·exact .inr ⟨i,by omega,ag⟩
  ·exact .inr ⟨j,by omega,by omega,aE⟩
section
variable(g2:Trace P pol K I f ops E H fc)
include g2
theorem Trace.avX{j:Nat}{o:Oper}(aC:ops[j]? = some o)(an:e2 o.op=.n){q:Nat}:¬ um fc j q:=by
 obtain⟨b,v,_,_,ao,xE⟩:=g2.step j o aC
 have no:fc j=some []→¬ um fc j q:=by
  rintro h (ai|⟨l,ai,aE⟩)
  ·rw[h]at ai;cases ai
  ·rw[h]at ai;cases ai;cases aE
 rcases xE with⟨_,zG,ax⟩|⟨_,_,uK,ax⟩
 ·cases zG with
  | pure g args aq r ae jC dI al az aY=>obtain⟨c,x,aN,gf,_⟩:=lJ ae;simp[e2,aN,gf]at an
  | fresh g args aq ag ae jC dI al eC gX iA aY=>obtain⟨c,x,aN,gf,_⟩:=lJ ae;simp[e2,aN,gf]at an
  | DI g args aq ag ae jC dI al eC gX iA kI lP aY=>obtain⟨c,x,aN,gf,_⟩:=lJ ae;simp[e2,aN,gf]at an
  | full g args ae jC af=>obtain⟨c,x,aN,gf,_⟩:=lJ ae;simp[e2,aN,gf]at an
  | plain r ae az =>
   obtain⟨l,a3,a7,cz,eJ,_⟩:=Gp ae az
   rw[a3,cz (by rw[an];rfl),eJ an]at ax
   exact no (by simpa[sP]using ax)
 ·exact no ax
theorem Trace.adw{j:Nat}{o:Oper}(aC:ops[j]? = some o)(an:e2 o.op=.a){q:Nat}(aE:um fc j q):(H j).length≤q∧q<(H (j+1)).length:=by
 obtain⟨b,v,_,_,ao,xE⟩:=g2.step j o aC
 rcases xE with⟨_,zG,ax⟩|⟨_,_,uK,ax⟩
 ·cases zG with
  | pure g args aq r ae jC dI al az aY=>obtain⟨c,x,aN,gf,_⟩:=lJ ae;simp[e2,aN,gf]at an
  | fresh g args aq ag ae jC dI al eC gX iA aY=>obtain⟨c,x,aN,gf,_⟩:=lJ ae;simp[e2,aN,gf]at an
  | DI g args aq ag ae jC dI al eC gX iA kI lP aY=>obtain⟨c,x,aN,gf,_⟩:=lJ ae;simp[e2,aN,gf]at an
  | full g args ae jC af=>obtain⟨c,x,aN,gf,_⟩:=lJ ae;simp[e2,aN,gf]at an
  | plain r ae az =>
   obtain⟨l,a3,a7,cz,eJ,gD⟩:=Gp ae az
   rw[a3,gD an]at ax
   rcases aE with h|⟨gg,h,hm⟩
   ·rw[ax]at h;cases h
   ·rw[ax]at h
    simp[sP]at h
    subst h
    simp[r2]at hm
    omega
 ·rcases aE with h|⟨gg,h,hm⟩
  ·rw[ax]at h;cases h
  ·rw[ax]at h;cases h;cases hm
end
structure Ground(P:Program)(pol:c4)(K:eZ)(I:eY)(f:FuncId)(ops:Array Oper)(fj:List (Nat × Nat))(E:Nat→Env)(H:Nat→aj)(fc:Nat→Option (List Nat)):Prop where
 g2:Trace P pol K I f ops E H fc
 ok:WI fj ops
 apart:∀ i j,(i,j)∈fj→r9 (fc i) (fc j)=true
structure w2(ops:Array Oper)(S:Nat→Prop)(j:Nat)(o:Oper):Prop where
 lt:∀ i,S i→i<ops.size
 aC:ops[j]? = some o
 no:¬ S j
 XX:∀ i k,S k→uc ops i k→S i
 dep:∀ i,uc ops i j→S i
section
variable{j:Nat}{o:Oper}(G:Ground P pol K I f ops fj E H fc)(A:w2 ops S j o)
include G A
theorem w2.order{i q:Nat}(af:m9 ops fc i q)(ax:um fc j q)(gY:i≠j):S i↔i<j:=by
 have Rf:=af.tch
 obtain⟨p,av,zJ,_⟩:=af
 have Ze:(e2 p.op).GF (e2 o.op)=true:=by
  cases zF:e2 o.op with
  | n=>exact absurd ax (G.g2.avX A.aC zF)
  | r=>cases BA:e2 p.op<;>simp[BA,Kind.quiet]at zJ<;>rfl
  | w=>cases BA:e2 p.op<;>simp[BA,Kind.quiet]at zJ<;>rfl
  | a =>
   cases BA:e2 p.op with
   | n=>simp[BA,Kind.quiet]at zJ
   | r=>simp[BA,Kind.quiet]at zJ
   | w=>rfl
   | a =>
    exfalso
    have ad:=G.g2.adw av BA Rf
    have ag:=G.g2.adw A.aC zF ax
    have hi:=o9 av
    have aU:=o9 A.aC
    by_cases h:i<j
    ·have:=G.g2.len (i+1) j (by omega) (by omega);omega
    ·have:=G.g2.len (j+1) i (by omega) (by omega);omega
 by_cases h:i<j
 ·refine⟨fun _=>h,fun _=>?_⟩
  rcases G.ok.cover i j p o av A.aC h Ze with ab|hm
  ·exact A.dep i ab
  ·exact(Xg (G.apart i j hm) Rf ax).elim
 ·refine⟨fun J=>?_,fun ai=>absurd ai h⟩
  rcases G.ok.cover j i o p A.aC av (by omega) (by rw[ai6];exact Ze)with ab|hm
  ·exact absurd (A.XX j i J ab) A.no
  ·exact(Xg (G.apart j i hm) ax Rf).elim
theorem w2.heap{q k:Nat}(ax:um fc j q)(ao:mD S (fun i=>m9 ops fc i q) k):(H j)[q]? = (H k)[q]?:=by
 have aU:=o9 A.aC
 have an:k≤j:=by
  rcases ao.2 with h|⟨i,rfl,J,af⟩
  ·omega
  ·exact(A.order G af ax (fun e=>A.no (e ▸ J))).1 J
 exact G.g2.Zm an (by omega) fun i ad ag af=>by
  have:=ao.1 i ((A.order G af ax (by omega)).2 ag) af
  omega
theorem w2.real{q:Nat}(ax:um fc j q)(aE:q<(H j).length):Real H S q:=by
 rcases P8 aE with h|⟨i,ad,ag,aJ⟩
 ·exact .inl h
 ·have hi:i<ops.size:=by have:=o9 A.aC;omega
  have af:=G.g2.news (o:=ops[i]) (by simp[hi]) ag aJ
  exact .inr ⟨i,(A.order G af ax (by omega)).2 ad,ag,aJ⟩
theorem w2.writer{i t:Nat}(aF:oW ops i=some t)(aw:t∈sH ops o)(gY:i≠j):S i↔i<j:=by
 rcases G.ok.azr i j o t A.aC gY aF aw with⟨h,ab⟩|⟨h,ab⟩
 ·exact⟨fun _=>h,fun _=>A.dep i ab⟩
 ·exact⟨fun J=>absurd (A.XX j i J ab) A.no,fun ai=>by omega⟩
theorem w2.env{t k:Nat}(aw:t∈sH ops o)(ao:mD S (fun i=>oW ops i=some t) k):(E j)[t]? = (E k)[t]?:=by
 have aU:=o9 A.aC
 have an:k≤j:=by
  rcases ao.2 with h|⟨i,rfl,J,af⟩
  ·omega
  ·exact(A.writer G af aw (fun e=>A.no (e ▸ J))).1 J
 exact G.g2.Yc an (by omega) fun i ad ag af=>by
  have:=ao.1 i ((A.writer G af aw (by omega)).2 ag) af
  omega
theorem w2.fresh{q:Nat}(ad:(H j).length≤q)(ag:q<(H (j+1)).length):¬ Real H S q:=by
 have aU:=o9 A.aC
 rintro(h|⟨i,J,aJ,bL⟩)
 ·have:=G.g2.len 0 j (by omega) (by omega);omega
 ·have hi:=A.lt i J
  have gY:i≠j:=fun e=>A.no (e ▸ J)
  by_cases h:i<j
  ·have:=G.g2.len (i+1) j (by omega) (by omega);omega
  ·have:=G.g2.len (j+1) i (by omega) (by omega);omega
end
end Go.Abs
/- The walk along a drawn order,and what a program's check then gives. -/
namespace Go.Abs
open Go
variable{P:Program}{pol:c4}{K:eZ}{I:eY}{f:FuncId}{ops:Array Oper}{fj:List (Nat × Nat)}{E:Nat→Env}{H:Nat→aj}{fc:Nat→Option (List Nat)}{S:Nat→Prop}
 {Z:hG} {D a5:c8} {β a4:dt} {w w':World} {ro:Option Nat} {M:sX}
theorem mD.back{p:Nat→Prop}{j k:Nat}(aw:¬ p j)(h:mD (fun i=>S i∨i=j) p k):mD S p k:=by
 refine⟨fun i J av=>h.1 i (.inl J) av,?_⟩
 rcases h.2 with e|⟨i,e,J,av⟩
 ·exact .inl e
 ·rcases J with J|rfl
  ·exact .inr ⟨i,e,J,av⟩
  ·exact absurd av aw
theorem mD.now{p:Nat→Prop}{j k:Nat}(av:p j)(aC:∀ i,S i→p i→i<j)(h:mD (fun i=>S i∨i=j) p k):k=j+1:=by
 have ad:=h.1 j (.inr rfl) av
 rcases h.2 with e|⟨i,e,J,vU⟩
 ·omega
 ·rcases J with J|rfl
  ·have:=aC i J vU;omega
  ·exact e
structure yW[cf](pol:c4)(Z:hG)(M:sX)(ops:Array Oper)(E:Nat→Env)(H:Nat→aj)(fc:Nat→Option (List Nat))(S:Nat→Prop)(D:c8)(β:dt)(w:World)(ro:Option Nat)(a:Act):Prop where
 g:er Z D β w
 gK:hH pol D w
 marks:Marks M w a.defers
 round:∀ l,ro=some l→∃ L,w.heap[l]? = some (.loop L)
 size:a.tmps.size=(E 0).length
 env:∀(t:Nat) v x k,mD S (fun i=>oW ops i=some t) k→a.tmps[t]? = some v→(E k)[t]? = some x→bf D β w v x
 obj:∀(q:Nat) x k,Real H S q→mD S (fun i=>m9 ops fc i q) k→(H k)[q]? = some x→e5 D β w q x
 kk:∀ q e y,β q e=some y→Real H S q
def u2(ops:Array Oper)(o:Oper)(env:Env):Env:=env.mapIdx fun t x=>if(sH ops o).contains t then x else .dead
theorem UZ{o:Oper}{env:Env}{t:Nat}(ax:t∈sH ops o):(u2 ops o env)[t]? = env[t]?:=by
 simp[u2,J8,ax]
theorem adi{o:Oper}{env:Env}{x:Operand}(U:x∈o.op.operands):g7 pol (u2 ops o env) x=g7 pol env x:=by
 cases x with
 | tmp t =>
  have ax:t∈sH ops o:=by
   simp only[sH,hp,List.mem_filterMap]
   exact .inl (.inr ⟨.tmp t,by simpa using U,rfl⟩)
  simp only[g7,qU,UZ ax]
 | const v=>rfl
 | global g=>rfl
 | func g=>rfl
theorem atz{o:Oper}{env:Env}:mN ops.toList (u2 ops o env) o.guard=mN ops.toList env o.guard:=by
 cases ay:o.guard with
 | none=>rfl
 | some IN =>
  obtain⟨g,wT⟩:=IN
  simp only[mN,s8]
  cases aC:ops[g]? with
  | none=>rfl
  | some cC =>
   simp only
   cases aF:cC.dst with
   | none=>rfl
   | some d =>
    simp only
    have ax:d∈sH ops o:=by
     simp only[sH,hp,ay]
     exact .inr (by simp[oW,aC,aF])
    simp only[qU,UZ ax]
section
variable[cf]{j:Nat}{o:Oper}{a:Act}(G:Ground P pol K I f ops fj E H fc)(A:w2 ops S j o)(m:yW pol Z M ops E H fc S D β w ro a)
include G A m
theorem yW.Yb:g3 D β w a.tmps (u2 ops o (E j)):=by
 have aU:=o9 A.aC
 refine⟨by simp[u2,m.size,G.g2.Ya j (by omega)],fun t v x az U=>?_⟩
 by_cases ax:t∈sH ops o
 ·rw[UZ ax]at U
  obtain⟨k,an⟩:=mD.exists A.lt (fun i=>oW ops i=some t)
  rw[A.env G ax an]at U
  exact m.env t v x k an az U
 ·simp only[u2,J8,mH]at U
  obtain⟨y,_,rfl⟩:=U
  simp[ax]
  exact .dead v
theorem yW.rep(x:Operand):bf D β w (a.eval x) (g7 pol (u2 ops o (E j)) x):=GR (m.Yb G A) m.gK x
theorem yW.Np{q:Nat}{x:a9}(ax:um fc j q)(U:(H j)[q]? = some x):e5 D β w q x:=by
 obtain⟨k,an⟩:=mD.exists A.lt (fun i=>m9 ops fc i q)
 have aE:q<(H j).length:=(cD.1 U).1
 rw[A.heap G ax an]at U
 exact m.obj q x k (A.real G ax aE) an U
theorem yW.next{v:Value}{x:ah}(U:Ext D β w a5 a4 w')(ay:er Z a5 a4 w')(he:E (j+1)=put (E j) o.dst x)(al:bf a5 a4 w' v x)
  (hold:∀(q:Nat) y k,Real H S q→¬ m9 ops fc j q→mD S (fun i=>m9 ops fc i q) k→(H k)[q]? = some y→e5 D β w q y→e5 a5 a4 w' q y)
  (mU:∀(q:Nat) y,m9 ops fc j q→(H (j+1))[q]? = some y→e5 a5 a4 w' q y)
  (am2:∀ q e y,a4 q e=some y→Real H (fun i=>S i∨i=j) q):yW pol Z M ops E H fc (fun i=>S i∨i=j) a5 a4 w' ro (a.put o.dst v) where
 g:=ay
 gK:=m.gK.mono U
 marks:=by rw[tS];exact m.marks.mono U
 round l ao:=let⟨L,eL⟩:=m.round l ao;U.loops l L eL
 size:=by
  rw[← m.size]
  cases o.dst<;>simp[Act.put]
 env t u y k an hu ar:=by
  by_cases aF:oW ops j=some t
  ·have zF:k=j+1:=by
    refine mD.now (p:=fun i=>oW ops i=some t) aF (fun i J av=>?_) an
    have ax:t∈sH ops o:=by
     simp only[oW,A.aC,AP]at aF
     simp[sH,aF]
    exact(A.writer G av ax (fun e=>A.no (e ▸ J))).1 J
   subst zF
   simp only[oW,A.aC,AP]at aF
   rw[he,aF]at ar
   rw[aF]at hu
   simp only[put,List.getElem?_set_self']at ar
   simp only[Act.put,Array.getElem?_setIfInBounds_self]at hu
   split at hu
   ·cases hu
    cases pS:(E j)[t]? with
    | none=>rw[pS]at ar;simp at ar
    | some z=>rw[pS]at ar;simp at ar;subst ar;exact al
   ·cases hu
  ·have h4:=mD.back aF an
   have vR:o.dst≠some t:=by simpa[oW,A.aC]using aF
   have mo:a.tmps[t]? = some u:=by
    cases Lm:o.dst with
    | none=>rw[Lm]at hu;exact hu
    | some d =>
     rw[Lm]at hu vR
     simp only[Act.put]at hu
     rwa[OT (fun e=>vR (by rw[e]))]at hu
   exact(m.env t u y k h4 mo ar).mono U
 obj q y k aE an ar:=by
  by_cases af:m9 ops fc j q
  ·have zF:k=j+1:=by
    refine mD.now (p:=fun i=>m9 ops fc i q) af (fun i J av=>?_) an
    exact(A.order G av af.tch (fun e=>A.no (e ▸ J))).1 J
   subst zF
   exact mU q y af ar
  ·have rj:Real H S q:=by
    rcases aE with h|⟨i,J,ad,ag⟩
    ·exact .inl h
    ·rcases J with J|rfl
     ·exact .inr ⟨i,J,ad,ag⟩
     ·exact absurd (G.g2.news A.aC ad ag) af
   have h4:=mD.back (p:=fun i=>m9 ops fc i q) af an
   exact hold q y k rj af h4 ar (m.obj q y k rj h4 ar)
 kk:=am2
end
theorem Real.mono{S':Nat→Prop}{q:Nat}(J:∀ i,S i→S' i)(h:Real H S q):Real H S' q:=by
 rcases h with h|⟨i,ad,ag⟩
 ·exact .inl h
 ·exact .inr ⟨i,J i ad,ag⟩
theorem auH[cf](dD:l2 P pol K)(bK:j9 P pol I)(G:Ground P pol K I f ops fj E H fc){Q:Exit→Act→World→Prop}{Ox:c8}{Ww:dt}{w0:World}
  (aw:∀ a5 a4 w' cb,St pol Z M a5 a4 (H ops.size) w' ro cb (E ops.size)→Ext Ox Ww w0 a5 a4 w'→Q .normal cb w') :
  ∀(l:List Nat) (S:Nat→Prop) (D:c8) (β:dt) (w:World) (a:Act),Valid ops S l→(∀ i,S i→i<ops.size)→(∀ i k,S k→uc ops i k→S i)→yW pol Z M ops E H fc S D β w ro a→Ext Ox Ww w0 D β w →
   wpOpsIn (fu ro) 0 P ops Q l a w:=by
 intro l
 induction l with
 | nil =>
  intro S D β w a az aB Lk m U
  refine aw D β w a ⟨⟨m.g,fun q x aE=>?_,fun q e y ar=>?_⟩,⟨by rw[m.size,G.g2.Ya _ (bP _)],fun t v x oy dM=>?_⟩,m.gK,m.marks,m.round⟩ U
  ·obtain⟨k,an⟩:=mD.exists aB (fun i=>m9 ops fc i q)
   have zH:k≤ops.size:=by
    rcases an.2 with e|⟨i,e,J,_⟩
    ·omega
    ·have:=aB i J;omega
   have rj:(H k)[q]? = some x:=by
    rw[← aE]
    refine(G.g2.Zm zH (bP _) fun i ad ag af=>?_).symm
    have:=an.1 i (az i ag) af
    omega
   refine m.obj q x k ?_ an rj
   rcases P8 (cD.1 aE).1 with h|⟨i,ad,ag⟩
   ·exact .inl h
   ·exact .inr ⟨i,az i ad,ag⟩
  ·rcases m.kk q e y ar with h|⟨i,J,ad,ag⟩
   ·exact w7 h (G.g2.len 0 _ (by omega) (bP _))
   ·exact w7 ag (G.g2.len _ _ (aB i J) (bP _))
  ·obtain⟨k,an⟩:=mD.exists aB (fun i=>oW ops i=some t)
   have zH:k≤ops.size:=by
    rcases an.2 with e|⟨i,e,J,_⟩
    ·omega
    ·have:=aB i J;omega
   refine m.env t v x k an oy ?_
   rw[← dM]
   refine(G.g2.Yc zH (bP _) fun i ad ag af=>?_).symm
   have:=an.1 i (az i ag) af
   omega
 | cons j l au =>
  intro S D β w a az aB Lk m U
  obtain⟨D6,⟨o,aC,Zk⟩,oy⟩:=az
  have A:w2 ops S j o:=⟨aB,aC,D6,Lk,fun i ab=>by
   cases ab with
   | KL _ cC e gv he kH=>rw[aC]at gv;cases gv;exact Zk e he kH
   | trans _ _ cC e gv he kH h=>rw[aC]at gv;cases gv;exact Lk _ _ (Zk e he kH) h⟩
  have k0:∀ i,(S i∨i=j)→i<ops.size:=by
   rintro i (h|rfl)
   ·exact aB i h
   ·exact o9 aC
  have am0:∀ i k,(S k∨k=j)→uc ops i k→(S i∨i=j):=by
   rintro i k (h|rfl) ab
   ·exact .inl (Lk i k h ab)
   ·exact .inl (A.dep i ab)
  have go:∀ {a5:c8} {a4:dt} {w':World} {cb:Act},yW pol Z M ops E H fc (fun i=>S i∨i=j) a5 a4 w' ro cb→Ext D β w a5 a4 w'→wpOpsIn (fu ro) 0 P ops Q l cb w' :=
   fun m' eX=>au _ _ _ _ _ oy k0 am0 m' (U.trans eX)
  obtain⟨b,v,xH,dm,hlen,xE⟩:=G.g2.step j o aC
  have al9:g3 D β w a.tmps (u2 ops o (E j)):=m.Yb G A
  have aoI:=DN (ops:=ops) (o:=o) rfl (by rw[atz];exact xH) al9
  have dz:=m.rep G A
  have j2:∀ h,bj P pol f (g7 pol (u2 ops o (E j))) h o=bj P pol f (g7 pol (E j)) h o:=fun h=>agC fun x U=>adi U
  have aaa:cO pol f (g7 pol (u2 ops o (E j))) o=cO pol f (g7 pol (E j)) o:=azQ fun x U=>adi U
  simp only[wpOpsIn,aC,aoI]
  -- nothing is changed
  have quiet:∀ {a5:c8} {a4:dt} {w':World} {bU:Value},hd (fun _=>False) D β w a5 a4 w'→er Z a5 a4 w'→(∀ q,¬ m9 ops fc j q)→bf a5 a4 w' bU v→wpOpsIn (fu ro) 0 P ops Q l (a.put o.dst bU) w':=by
   intro a5 a4 w' bU aI ay BE al
   refine go (m.next G A aI.ext ay dm al (fun q y _ _ _ _ _ ar=>ar.frame aI (fun h=>h)) (fun q y af=>absurd af (BE q)) fun q e y ar=>?_) aI.ext
   rw[aI.iQ q e (fun h=>h)]at ar
   exact(m.kk q e y ar).mono fun i h=>.inl h
  rcases xE with⟨rfl,an,x2⟩|⟨rfl,rfl,uK,x2⟩
  ·simp only[cQ]
   cases an with
   | pure g args aq r ae jC dI al LL aY =>
    subst LL
    refine adY dD ((j2 _).trans ae) dI al m.g.hV m.gK dz fun bU w' anE oy=>?_
    obtain⟨aI,ay⟩:=Yx (S:=fun _=>False) anE m.g
    refine quiet aI ay (fun q af=>?_) (.t _ _ oy)
    rcases af.tch with h|⟨gg,h,hm⟩
    ·rw[x2,jC]at h;simp[sP]at h
    ·rw[x2,jC,aY]at h;simp[sP]at h;subst h;cases hm
   | fresh g args aq ag ae jC dI al eC gX iA aY =>
    have pT:fc j=some ([]++List.range' (H j).length ((H (j+1)).length-(H j).length)):=by rw[x2,jC];rfl
    obtain⟨c,x,aN,gf,_⟩:=lJ ae
    have D3:(H (j+1)).length=ag.length:=by rw[aY];simp;omega
    have GD:∀ q,(H j).length≤q→q<(H (j+1)).length→m9 ops fc j q:=fun q ad ag=>⟨o,aC,by simp[e2,aN,gf,Kind.quiet],.inr ⟨_,pT,by simp[r2];omega⟩⟩
    refine Yu bK ((j2 _).trans ae) dI al gX iA m.g m.gK dz (fun q e ad xv=>by
     cases ab:β q e with
     | none=>rfl
     | some y=>exact absurd (m.kk q e y ab) (A.fresh G ad (by omega))) fun bU w' a5 a4 av=>?_
    obtain⟨cP,dc,fi,sK,ks,_⟩:=av
    refine go (m.next G A dc.ext fi dm cP (fun q y k aE af an Sl ar=>?_) (fun q y af ar=>?_) fun q e y ar=>?_) dc.ext
    ·refine ar.frame dc (fun J=>af (GD q J.1 (by omega)))
    ·have aE:(H j).length≤q∧q<(H (j+1)).length:=by
      rcases af.tch with h|⟨gg,h,hm⟩
      ·rw[pT]at h;cases h
      ·rw[pT]at h
       cases h
       simp[r2]at hm
       omega
     refine sK q y aE.1 ?_
     rw[aY,g5 aE.1,nF,show(H j).length+(q-(H j).length)=q by omega]at ar
     exact ar
    ·by_cases J:(H j).length≤q∧q<ag.length
     ·exact .inr ⟨j,.inr rfl,J.1,by omega⟩
     ·rw[dc.iQ q e J]at ar
      exact(m.kk q e y ar).mono fun i h=>.inl h
   | DI g args aq ag ae jC dI al eC gX iA kI lP aY =>
    have pT:fc j=some (jF args++List.range' (H j).length ((H (j+1)).length-(H j).length)):=by rw[x2,jC];rfl
    have tch:∀ q,q∈jF args→um fc j q:=fun q aE=>.inr ⟨_,pT,by simp[aE]⟩
    obtain⟨c,x,aN,gf,_⟩:=lJ ae
    have D3:(H (j+1)).length=ag.length:=by rw[aY];simp;omega
    have GD:∀ q,(H j).length≤q→q<(H (j+1)).length→m9 ops fc j q:=fun q ad ag=>⟨o,aC,by simp[e2,aN,gf,Kind.quiet],.inr ⟨_,pT,y6 _ (by simp[r2];omega)⟩⟩
    have b4:∀(q:Nat) y,z8 (jF args) q=true→(H j)[q]? = some y→e5 D β w q y:=fun q y aE ar=>m.Np G A (tch q (by simpa[z8]using aE)) ar
    refine Yt bK ((j2 _).trans ae) dI b4 al gX iA kI lP m.g m.gK dz (fun q e ad xv=>by
     cases ab:β q e with
     | none=>rfl
     | some y=>exact absurd (m.kk q e y ab) (A.fresh G ad (by omega))) fun bU w' a5 a4 av=>?_
    obtain⟨cP,dc,fi,sK,ks,_⟩:=av
    refine go (m.next G A dc.ext fi dm cP (fun q y k aE af an Sl ar=>?_) (fun q y af ar=>?_) fun q e y ar=>?_) dc.ext
    ·refine ar.frame dc (fun J=>af (GD q J.1 (by omega)))
    ·by_cases aE:(H j).length≤q∧q<(H (j+1)).length
     ·refine sK q y aE.1 ?_
      rw[aY,g5 aE.1,nF,show(H j).length+(q-(H j).length)=q by omega]at ar
      exact ar
     ·have aoh:q∈jF args:=by
       rcases af.tch with h|⟨gg,h,hm⟩
       ·rw[pT]at h;cases h
       ·rw[pT]at h
        cases h
        rcases hp.1 hm with hm|hm
        ·exact hm
        ·simp[r2]at hm;omega
      have xY:q<(H (j+1)).length:=(cD.1 ar).1
      have aog:q<(H j).length:=by omega
      have pS:(H j)[q]? = some y:=by rw[aY,fv aog]at ar;exact ar
      exact(m.Np G A (tch q aoh) pS).frame dc (fun J=>by omega)
    ·by_cases J:(H j).length≤q∧q<ag.length
     ·exact .inr ⟨j,.inr rfl,J.1,by omega⟩
     ·rw[dc.iQ q e J]at ar
      exact(m.kk q e y ar).mono fun i h=>.inl h
   | plain r ae LL =>
    obtain⟨N9,a3,a7,cz,_⟩:=Gp ae LL
    have pT:fc j=some (N9++List.range' (H j).length ((H (j+1)).length-(H j).length)):=by rw[x2,a3];rfl
    have tch:∀ q,q∈N9→um fc j q:=fun q aE=>.inr ⟨_,pT,by simp[aE]⟩
    have ZA:=Vf (ρr:=a.eval) (Z:=Z) (D:=D) (β:=β) (w:=w) ((j2 _).trans ae) LL m.g dz (fun q e ad ag=>by
     cases ab:β q e with
     | none=>rfl
     | some y=>exact absurd (m.kk q e y ab) (A.fresh G ad ag)) (fun q y aE ar=>by
     rw[aaa,a3]at aE
     exact m.Np G A (tch q aE) ar)
    rw[aaa,a3]at ZA
    obtain⟨aF,uT,ao⟩:=ZA.parts
    refine afu (W7 ae) aF fun bU w' a5 a4 al aI ay mi ts=>?_
    simp only[na]at aI mi uT
    refine go (m.next G A aI.ext ay dm al (fun q y k aE af an Sl ar=>?_) (fun q y af ar=>?_) fun q e y ar=>?_) aI.ext
    ·by_cases J:ep N9 (H j) (H (j+1)) q
     · -- aDh,not changed
      have HA:(e2 o.op).quiet=true:=by
       cases aoi:(e2 o.op).quiet with
       | true=>rfl
       | false =>
        refine absurd ⟨o,aC,aoi,.inr ⟨_,pT,?_⟩⟩ af
        rcases J with h|⟨ad,ag⟩
        ·simp[h]
        ·simp[r2];omega
      have aY:=cz HA
      have rj:(H j)[q]? = some y:=by
       rcases J with h|⟨ad,ag⟩
       ·rw[A.heap G (tch q h) an];exact Sl
       ·rw[aY]at ag;omega
      exact mi q y J (by rw[aY];exact rj)
     ·exact ar.frame aI J
    ·refine mi q y ?_ ar
     rcases af.tch with h|⟨gg,h,hm⟩
     ·rw[pT]at h;cases h
     ·rw[pT]at h
      cases h
      simp[r2]at hm
      rcases hm with hm|hm
      ·exact .inl hm
      ·exact .inr ⟨hm.1,by omega⟩
    ·by_cases J:ep N9 (H j) (H (j+1)) q
     ·rcases J with h|⟨ad,ag⟩
      ·rcases ts q e y ar with⟨bs,od,pS⟩|ai
       ·exact(m.kk q bs od pS).mono fun i h=>.inl h
       ·by_cases xY:q<(H j).length
        ·exact(A.real G (tch q h) xY).mono fun i h=>.inl h
        ·exact .inr ⟨j,.inr rfl,by omega,ai⟩
      ·exact .inr ⟨j,.inr rfl,ad,ag⟩
     ·rw[aI.iQ q e J]at ar
      exact(m.kk q e y ar).mono fun i h=>.inl h
   | full g args ae jC af =>
    have pT:fc j=none:=by rw[x2,jC];rfl
    have tch:∀ q,um fc j q:=fun q=>.inl pT
    obtain⟨c,x,aN,gf,_⟩:=lJ ae
    have GD:∀ q,m9 ops fc j q:=fun q=>⟨o,aC,by simp[e2,aN,gf,Kind.quiet],.inl pT⟩
    have hinv:Inv Z D β (H j) w:=⟨m.g,fun q y ar=>m.Np G A (tch q) ar,fun q e y ar=>by
     rcases m.kk q e y ar with h|⟨i,J,ad,ag⟩
     ·exact w7 h (G.g2.len 0 _ (by omega) (by have:=o9 aC;omega))
     ·have hi:=aB i J
      have j2:=G.g2.news (o:=ops[i]) (by simp[hi]) ad ag
      have gY:=(A.order G j2 (tch q) (fun e=>D6 (e ▸ J))).1 J
      exact w7 ag (G.g2.len _ _ (by omega) (by have:=o9 aC;omega))⟩
    refine YC dD bK ((j2 _).trans ae) af hinv m.gK dz fun bU w' a5 a4 al fz dM=>?_
    refine go (m.next G A dM fz.g dm al (fun q y _ _ BE=>absurd (GD q) BE) (fun q y _ ar=>fz.obj q y ar) fun q e y ar=>?_) dM
    rcases P8 (fz.kk q e y ar)with h|⟨i,ad,ag,aJ⟩
    ·exact .inl h
    ·by_cases gY:i=j
     ·exact .inr ⟨i,.inr gY,ag,aJ⟩
     ·have hi:i<ops.size:=by have:=o9 aC;omega
      have j2:=G.g2.news (o:=ops[i]) (by simp[hi]) ag aJ
      exact .inr ⟨i,.inl ((A.order G j2 (tch q) gY).2 (by omega)),ag,aJ⟩
  ·simp only[fJ,et]
   refine⟨fun _ _=>trivial,?_⟩
   refine quiet (.refl D β w) m.g (fun q af=>?_) FI
   rcases af.tch with h|⟨gg,h,hm⟩
   ·rw[x2]at h;cases h
   ·rw[x2]at h;cases h;cases hm
theorem KG[cf](anQ:P.follows .mixedOrders=true)(dD:l2 P pol K)(bK:j9 P pol I):sT P pol K I n3:=by
 intro f id ops Z M D β h ai w ro env bz a aq Q J af ck aS aw t
 obtain⟨E,H,rfl,rfl,rfl,rfl,g2⟩:=azT J
 have Z4:=aw1 ck
 rw[anQ]
 have G:Ground P pol K I f ops (pol.fj f id) E H (fun j=>aq.getD j none):=⟨g2,Z4,fun i j gY=>by
  have:=jY.1 af (i,j) gY
  exact this⟩
 refine auH dD bK G aw _ (fun _=>False) D β w a (axV Z4.KM t) (fun _ h=>h.elim) (fun _ _ h=>h.elim) ?_ (.refl D β w)
 have z:∀ {p:Nat→Prop} {k:Nat},mD (fun _=>False) p k→k=0:=by
  intro p k h
  rcases h.2 with e|⟨_,_,h,_⟩
  ·exact e
  ·exact h.elim
 exact⟨aS.inv.g,aS.gK,aS.marks,aS.round,aS.env.1,fun t v x k an az U=>aS.env.2 t v x az (by rw[z an]at U;exact U),fun q x k _ an U=>aS.inv.obj q x (by rw[z an]at U;exact U),fun q e y ar=>.inl (aS.inv.kk q e y ar)⟩
end Go.Abs
/- One oracle for all: what the evaluator over itself comes to in the end. Its answers are sound,and it is closed under evaluation. -/
namespace Go.Abs
open Go
variable{P:Program}{pol:c4}
structure CX(qR:Type) where
 h1:(qR→Prop)→Prop
 all:∀ {p:qR→Prop},(∀ x,p x)→h1 p
 mono:∀ {p q:qR→Prop},h1 p→(∀ x,p x→q x)→h1 q
 both:∀ {p q:qR→Prop},h1 p→h1 q→h1 (fun x=>p x∧q x)
section
variable{qR:Type}{E:CX qR}{K:eZ}{I:eY}{rW:qR→eZ}{nA:qR→eY}{n:Nat}{n':qR→Nat}{f:FuncId}
theorem CX.Ae{p q r:qR→Prop}(av:E.h1 p)(aE:E.h1 q)(h:∀ x,p x→q x→r x):E.h1 r:=E.mono (E.both av aE) fun x U=>h x U.1 U.2
def FT(E:CX qR)(K:eZ)(rW:qR→eZ):Prop:=∀ f aq r,K f aq=some r→E.h1 fun x=>rW x f aq=some r
def AI(E:CX qR)(I:eY)(nA:qR→eY):Prop:=∀ g args h y,I g args h=some y→E.h1 fun x=>nA x g args h=some y
theorem AI.alive(bK:AI E I nA){g:sY}{args:List ah}{h:aj}{y:ah × aj}(J:Go.Abs.alive (I g args h)=some y):E.h1 fun x=>Go.Abs.alive (nA x g args h)=some y:=by
 obtain⟨v,ai⟩:=y
 obtain⟨ad,_⟩:=Pp J
 exact E.mono (bK _ _ _ _ ad) fun x U=>by rw[U];rw[ad]at J;exact J
theorem AI.trim(bK:AI E I nA){b:Bool}{g:sY}{args:List ah}{bo h:aj}{y:ah × aj}(J:pr b bo (Go.Abs.alive (I g args h))=some y):E.h1 fun x=>pr b bo (Go.Abs.alive (nA x g args h))=some y:=by
 cases al:Go.Abs.alive (I g args h)with
 | none=>rw[al]at J;cases b<;>simp[pr]at J
 | some z=>exact E.mono (bK.alive al) fun x U=>by rw[U];rw[al]at J;exact J
variable(dD:FT E K rW)(bK:AI E I nA)(aw:E.h1 fun x=>n≤n' x)
include dD bK
theorem asX{at_:FuncId}{d:Tmp}{g:sY}{args:List ah}{h:aj}{y:ah × aj}(af:iw pol K I at_ d g args h=some y):E.h1 fun x=>iw pol (rW x) (nA x) at_ d g args h=some y:=by
 unfold iw at af
 split at af
 ·exact E.mono (bK _ _ _ _ af) fun x U=>by unfold iw;exact U
 ·split at af
  ·rename_i av
   exact E.mono (bK.trim af) fun x U=>by unfold iw;simp only[av,cQ];exact U
  ·rename_i av
   split at af
   ·rename_i aq dI
    split at af
    ·rename_i iC
     obtain⟨m7,Oq⟩:=y
     obtain⟨ag,dT,ao,gX,iA,e⟩:=KZ af
     exact E.mono (bK.alive dT) fun x U=>by unfold iw;simp only[av,et,dI,iC,cQ,U];simp[vI,ao,gX,iA,e]
    rename_i iC
    split at af
    ·rename_i r al
     exact E.mono (dD _ _ _ al) fun x U=>by unfold iw;simp only[av,et,dI,iC,U];exact af
    ·simp at af
   ·rename_i dI
    split at af
    ·rename_i iC
     split at af
     ·rename_i aq hm
      obtain⟨m7,Oq⟩:=y
      obtain⟨ag,dT,ao,gX,iA,kI,lP,e⟩:=Qn af
      exact E.mono (bK.alive dT) fun x U=>by unfold iw;simp only[av,et,dI,hm,iC,cQ,U];simp[vJ,vI,ao,gX,iA,kI,lP,e]
     ·simp at af
    rename_i iC
    split at af
    ·rename_i aq hm
     split at af
     ·rename_i r al
      exact E.mono (dD _ _ _ al) fun x U=>by unfold iw;simp only[av,et,dI,hm,iC,U];exact af
     ·simp at af
    ·rename_i hm
     exact E.mono (bK.alive af) fun x U=>by unfold iw;simp only[av,et,dI,hm,iC];exact U
theorem UN{o:Oper}{env:Env}{h:aj}{y:Env × aj}(J:lK P pol K I f o env h=some y):E.h1 fun x=>lK P pol (rW x) (nA x) f o env h=some y:=by
 unfold lK at J
 split at J
 ·rename_i ae
  exact E.all fun x=>by unfold lK;simp only[ae];exact J
 ·rename_i ae
  exact E.all fun x=>by unfold lK;simp only[ae];exact J
 ·rename_i g args ae
  split at J
  ·rename_i v ag af
   exact E.mono (asX dD bK af) fun x U=>by unfold lK;simp only[ae,U];exact J
  ·simp at J
 ·simp at J
theorem ac3{o:Oper}{env:Env}{h:aj}{y:Env × aj}(J:nI P pol K I f o env h=some y):E.h1 fun x=>nI P pol (rW x) (nA x) f o env h=some y:=by
 unfold nI at J
 split at J
 ·rename_i av
  split at J
  ·rename_i aW ag aI
   exact E.mono (UN dD bK J) fun x U=>by unfold nI;simp only[av,cQ,aI];exact U
  ·simp at J
 ·rename_i av
  exact E.mono (UN dD bK J) fun x U=>by unfold nI;simp only[av];exact U
theorem as0{ops:List Oper}:∀(rest:List Oper) {env:Env} {h:aj} {y:Env × aj},kc P pol K I f ops rest env h=some y→E.h1 fun x=>kc P pol (rW x) (nA x) f ops rest env h=some y:=by
 intro rest
 induction rest with
 | nil=>intro env h y J;exact E.all fun x=>J
 | cons o rest au =>
  intro env h y J
  unfold kc at J
  split at J
  ·rename_i b ab
   split at J
   ·rename_i q7
    split at J
    ·rename_i aW ag aS
     exact E.Ae (ac3 dD bK aS) (au J) fun x ad ag=>by unfold kc;simp only[ab,q7,cQ,ad];exact ag
    ·simp at J
   ·rename_i q7
    exact E.mono (au J) fun x ad=>by unfold kc;simp only[ab,q7];exact ad
  ·simp at J
theorem as1{ops:List Oper}:∀(rest:List Oper) {env:Env} {h:aj} {y:Env × aj × List (Option (List Nat))},pD P pol K I f ops rest env h=some y→E.h1 fun x=>pD P pol (rW x) (nA x) f ops rest env h=some y:=by
 intro rest
 induction rest with
 | nil=>intro env h y J;exact E.all fun x=>J
 | cons o rest au =>
  intro env h y J
  unfold pD at J
  split at J
  ·rename_i b ab
   split at J
   ·rename_i q7
    split at J
    ·rename_i aW ag aS
     split at J
     ·simp at J
     ·rename_i ao
      split at J
      ·rename_i bw aJ aq al
       exact E.Ae (UN dD bK aS) (au al) fun x ad ag=>by unfold pD;simp only[ab,q7,cQ,ad,ao,et,ag];exact J
      ·simp at J
    ·simp at J
   ·rename_i q7
    split at J
    ·rename_i bw aJ aq al
     exact E.mono (au al) fun x ad=>by unfold pD;simp only[ab,q7,ad];exact J
    ·simp at J
  ·simp at J
omit dD bK in
theorem Vn{K:eZ}{o:Oper}{env:Env}{h ai:aj}(av:qW P pol I f o env h=some ai):lK P pol K I f o env h=none:=by
 unfold qW at av
 split at av
 ·rename_i g args ae
  split at av
  ·rename_i hf
   split at av
   ·rename_i ag hi
    unfold lK
    simp only[ae,iw,hf,cQ,hi,alive]
    cases pol.trim g<;>simp[pr]
   ·cases av
  ·cases av
 ·cases av
omit dD bK in
theorem adJ{K:eZ}{ops:List Oper}:∀(rest:List Oper) {env:Env} {h:aj} {y:Env × aj},kd P pol K I f ops rest env h=some y→kc P pol K I f ops rest env h=none:=by
 intro rest
 induction rest with
 | nil=>intro env h y J;simp[kd]at J
 | cons o rest au =>
  intro env h y J
  unfold kd at J
  split at J
  ·rename_i al
   obtain⟨t,x,d,h7,Fa,ty,aC,_,ay,_⟩:=Vz al
   unfold kc
   have ad:∀ e h,lK P pol K I f o e h=none:=fun e h=>by simp[lK,bj,aC]
   have:nI P pol K I f o env h=none:=by
    unfold nI
    split
    ·split
     ·exact ad _ _
     ·rfl
    ·exact ad _ _
   simp[ay,mN,this]
  ·split at J
   ·rename_i b ab
    unfold kc
    simp only[ab]
    cases b with
    | true =>
     simp only[cQ]at J ⊢
     split at J
     ·rename_i ad av
      split at av
      ·cases av
      ·rename_i fm
       have:nI P pol K I f o env h=none:=by unfold nI;rw[a2 fm];exact Vn av
       simp[this]
     ·split at J
      ·rename_i eg ad aS
       exact au J
      ·simp at J
    | false =>
     simp at J
     simpa using au J
   ·simp at J
theorem as3{o:Oper}{env:Env}{h ai:aj}(J:qW P pol I f o env h=some ai):E.h1 fun x=>qW P pol (nA x) f o env h=some ai:=by
 unfold qW at J
 split at J
 ·rename_i g args ae
  split at J
  ·rename_i hf
   split at J
   ·rename_i ag hi
    exact E.mono (bK _ _ _ _ hi) fun x U=>by unfold qW;simp only[ae,hf,cQ,U];exact J
   ·cases J
  ·cases J
 ·cases J
theorem as2{ops:List Oper}:∀(rest:List Oper) {env:Env} {h:aj} {y:Env × aj},kd P pol K I f ops rest env h=some y→E.h1 fun x=>kd P pol (rW x) (nA x) f ops rest env h=some y:=by
 intro rest
 induction rest with
 | nil=>intro env h y J;simp[kd]at J
 | cons o rest au =>
  intro env h y J
  unfold kd at J
  split at J
  ·rename_i al
   exact E.all fun x=>by unfold kd;rw[a6 al];exact J
  ·rename_i al
   split at J
   ·rename_i b ab
    cases b with
    | true =>
     simp only[cQ]at J
     split at J
     ·rename_i ad av
      split at av
      ·cases av
      ·rename_i fm
       exact E.mono (as3 dD bK av) fun x U=>by unfold kd;rw[a2 al];simp only[ab,cQ,a2 fm,U];exact J
     ·split at J
      ·rename_i eg ad aS
       refine E.Ae (ac3 dD bK aS) (au J) fun x ad ag=>?_
       unfold kd
       rw[a2 al]
       simp only[ab,cQ]
       by_cases fm:pol.dV f (o.dst.getD 0)=true
       ·simp only[fm,cQ,ad];exact ag
       ·simp only[a2 fm]
        cases av:qW P pol (nA x) f o env h with
        | some aJ =>
         have:nI P pol (rW x) (nA x) f o env h=none:=by unfold nI;rw[a2 fm];exact Vn av
         rw[this]at ad;cases ad
        | none=>simp only[ad];exact ag
      ·simp at J
    | false =>
     simp at J
     exact E.mono (au J) fun x ad=>by unfold kd;rw[a2 al];simp only[ab];simpa using ad
   ·simp at J
omit dD bK in
theorem asZ{cF:Nat}{live:Option (List Tmp)}{body:Env→aj→Option (cW × Env × aj)}{body':qR→Env→aj→Option (cW × Env × aj)}(ab:∀ env h y,body env h=some y→E.h1 fun x=>body' x env h=some y) :
  ∀(n:Nat) {env:Env} {h:aj} {y:cW × Env × aj},iter cF live body n env h=some y→E.h1 fun x=>∀ m,n≤m→iter cF live (body' x) m env h=some y:=by
 intro n
 induction n with
 | zero=>intro env h y J;simp[iter]at J
 | succ n au =>
  intro env h y J
  unfold iter at J
  split at J
  ·rename_i aW ag kH
   split at J
   ·rename_i bw aJ hy
    refine E.Ae (ab _ _ _ kH) (au J) fun x ad ag m hm=>?_
    obtain⟨k,rfl⟩:∃ k,m=k+1:=⟨m-1,by omega⟩
    unfold iter
    simp only[ad,hy]
    exact ag k (by omega)
   ·simp at J
  ·rename_i jn
   refine E.mono (ab _ _ _ J) fun x ad m hm=>?_
   obtain⟨k,rfl⟩:∃ k,m=k+1:=⟨m-1,by omega⟩
   unfold iter
   rw[ad]
   obtain⟨mB,aW,ag⟩:=y
   cases mB with
   | normal=>exact absurd J (jn aW ag)
   | exit id=>rfl
   | ret=>rfl
   | panic=>rfl
include aw
theorem IX:∀(c:Code) {dd:Nat} {env:Env} {h:aj} {y:cW × Env × aj},du P pol K I n f dd c env h=some y→E.h1 fun x=>du P pol (rW x) (nA x) (n' x) f dd c env h=some y:=by
 intro c
 induction c with
 | skip=>intro dd env h y J;exact E.all fun x=>by simpa[du]using J
 | label l=>intro dd env h y J;exact E.all fun x=>by simpa[du]using J
 | exit id=>intro dd env h y J;exact E.all fun x=>by simpa[du]using J
 | ret=>intro dd env h y J;exact E.all fun x=>by simpa[du]using J
 | region id ops vE =>
  intro dd env h y J
  cases vE with
  | false =>
   simp only[du]at J
   split at J
   ·rename_i aW ag aC
    exact E.mono (as0 dD bK _ aC) fun x ad=>by simp only[du,ad];exact J
   ·split at J
    ·rename_i o4
     split at J
     ·rename_i aW ag aC
      exact E.mono (as2 dD bK _ aC) fun x ad=>by simp only[du,adJ _ ad,o4,cQ,ad];exact J
     ·simp at J
    ·simp at J
  | true =>
   simp only[du]at J
   split at J
   ·rename_i aW ag aq aC
    exact E.mono (as1 dD bK _ aC) fun x ad=>by simp only[du,ad];exact J
   ·simp at J
 | seq a b rq sx =>
  intro dd env h y J
  simp only[du]at J
  split at J
  ·rename_i aW ag ae
   exact E.Ae (rq ae) (sx J) fun x ad ag=>by simp only[du,ad];exact ag
  ·rename_i jn
   refine E.mono (rq J) fun x ad=>?_
   simp only[du,ad]
   obtain⟨mB,aW,ag⟩:=y
   cases mB with
   | normal=>exact absurd J (jn aW ag)
   | exit id=>rfl
   | ret=>rfl
   | panic=>rfl
 | cond t a b rq sx =>
  intro dd env h y J
  simp only[du]at J
  split at J
  ·rename_i v az
   split at J
   ·rename_i ax
    exact E.mono (rq J) fun x ad=>by simp only[du,az,ax,cQ];exact ad
   ·rename_i ax
    exact E.mono (sx J) fun x ad=>by simp only[du,az,ax];exact ad
  ·simp at J
 | block id c au =>
  intro dd env h y J
  simp only[du]at J
  split at J
  ·rename_i j aW ag af
   exact E.mono (au af) fun x ad=>by simp only[du,ad];exact J
  ·rename_i jn
   refine E.mono (au J) fun x ad=>?_
   simp only[du,ad]
   obtain⟨mB,aW,ag⟩:=y
   cases mB with
   | normal=>rfl
   | exit id=>exact absurd J (jn id aW ag)
   | ret=>rfl
   | panic=>rfl
 | loop c au =>
  intro dd env h y J
  simp only[du]at J
  exact E.Ae (asZ (body':=fun x=>du P pol (rW x) (nA x) (n' x) f dd c) (fun env h y ar=>au ar) n J) aw fun x ad ag=>by simp only[du];exact ad _ ag
 | scope c au =>
  intro dd env h y J
  simp only[du]at J
  exact E.mono (au J) fun x ad=>by simp only[du];exact ad
 | rangeFunc g params assign body _ _ =>
  intro dd env h y J
  simp only[du]at J
  split at J
  ·rename_i nS args ay
   split at J
   ·rename_i v ag hi
    exact E.mono (bK.alive hi) fun x ad=>by simp only[du,ay,ad];exact J
   ·simp at J
  ·simp at J
 | _=>intro dd env h y J;simp[du]at J
theorem ac2{args:List ah}{h:aj}{y:ah × aj}(ab:p9 P pol K I n f args h=some y):E.h1 fun x=>p9 P pol (rW x) (nA x) (n' x) f args h=some y:=by
 unfold p9 at ab
 split at ab
 ·rename_i fn aI
  split at ab
  ·rename_i c af
   split at ab
   ·rename_i hx ag ae
    exact E.mono (IX dD bK aw c ae) fun x ad=>by unfold p9;simp only[aI,af,ad];exact ab
   ·rename_i hx ag ae
    exact E.mono (IX dD bK aw c ae) fun x ad=>by unfold p9;simp only[aI,af,ad];exact ab
   ·rename_i hx ag ae
    exact E.mono (IX dD bK aw c ae) fun x ad=>by unfold p9;simp only[aI,af,ad];exact ab
   ·simp at ab
  ·simp at ab
 ·simp at ab
end
def xn:CX Nat where
 h1 p:=∃ i,∀ j,i≤j→p j
 all h:=⟨0,fun j _=>h j⟩
 mono:=fun⟨i,h⟩ hm=>⟨i,fun j aU=>hm j (h j aU)⟩
 both:=fun⟨i,h⟩ ⟨k,ai⟩=>⟨i+k,fun j aU=>⟨h j (by omega),ai j (by omega)⟩⟩
def vK(d:Nat):CX (Nat × Nat) where
 h1 p:=∃ i,∀ j,i≤j→∀ e,d≤e→p (j,e)
 all h:=⟨0,fun j _ e _=>h (j,e)⟩
 mono:=fun⟨i,h⟩ hm=>⟨i,fun j aU e he=>hm _ (h j aU e he)⟩
 both:=fun⟨i,h⟩ ⟨k,ai⟩=>⟨i+k,fun j aU e he=>⟨h j (by omega) e he,ai j (by omega) e he⟩⟩
theorem asY{K:eZ}{C:Nat→eZ}{n:Nat}(dD:FT xn K C):∀(d:Nat),AI (vK d) (inl P pol K n d) (fun x=>inl P pol (C x.1) x.1 x.2):=by
 intro d
 induction d with
 | zero=>intro g args h y J;simp[inl]at J
 | succ d au =>
  intro g args h y J
  have QM:FT (vK d) K (fun x=>C x.1):=fun f aq r al=>let⟨i,hi⟩:=dD f aq r al;⟨i,fun j aU e _=>hi j aU⟩
  have ll:(vK d).h1 fun x=>n≤x.1:=⟨n,fun j aU e _=>aU⟩
  have up:∀ {p:Nat × Nat→Prop},(vK d).h1 p→(vK (d+1)).h1 fun x=>p (x.1,x.2-1):=fun⟨i,hi⟩=>⟨i,fun j aU e he=>hi j aU (e-1) (by omega)⟩
  have pos:(vK (d+1)).h1 fun x=>x.2=x.2-1+1:=⟨0,fun j _ e he=>by simp;omega⟩
  cases g with
  | fn g =>
   simp only[inl]at J
   refine(vK (d+1)).Ae (up (ac2 QM au ll J)) pos fun x ad ag=>?_
   show inl P pol (C x.1) x.1 x.2 (.fn g) args h=some y
   rw[ag]
   simp only[inl]
   exact ad
  | bF l =>
   simp only[inl]at J
   split at J
   ·rename_i f env params assign body bx
    split at J
    ·simp at J
    ·rename_i hlen
     split at J
     ·rename_i eg ad Q3
      split at J
      ·rename_i Lb Bp
       have fin:∀ {od},du P pol K (inl P pol K n d) n f 0 body eg Lb=some od→(∀ x:Nat × Nat,du P pol (C x.1) (inl P pol (C x.1) x.1 (x.2-1)) x.1 f 0 body eg Lb=some od →
         (match(du P pol (C x.1) (inl P pol (C x.1) x.1 (x.2-1)) x.1 f 0 body eg Lb)with
          | some (.normal,_,ag)=>pU ag l none
          | some (.ret,_,ag)=>pU ag l (some .ret)
          | some (.exit id,_,ag)=>pU ag l (some (.exit id))
          | _=>none)=some y)→(vK (d+1)).h1 fun x=>inl P pol (C x.1) x.1 x.2 (.bF l) args h=some y:=by
        intro od kH zB
        refine(vK (d+1)).Ae (up ((vK d).both (IX QM au ll assign Q3) (IX QM au ll body kH))) pos fun x ad ag=>?_
        rw[ag]
        simp only[inl,bx,hlen,et]
        rw[ad.1]
        simp only[Bp]
        exact zB x ad.2
       split at J
       ·rename_i bw aJ kH
        exact fin kH fun x U=>by rw[U];exact J
       ·rename_i bw aJ kH
        exact fin kH fun x U=>by rw[U];exact J
       ·rename_i id bw aJ kH
        exact fin kH fun x U=>by rw[U];exact J
       ·simp at J
      ·simp at J
     ·simp at J
   ·simp at J
def chain(P:Program)(pol:c4):Nat→eZ
 | 0=>fun _ _=>none
 | j+1=>fun f aq=>match wB pol f aq with|some r=>some r|none=>wI P pol (chain P pol j) j j f aq
open Classical in
noncomputable def a0(P:Program)(pol:c4):eZ:=fun f aq=>if h:∃ r,xn.h1 fun j=>chain P pol j f aq=some r then some h.choose else none
theorem Xb:FT xn (a0 P pol) (chain P pol):=by
 intro f aq r al
 unfold a0 at al
 split at al
 ·rename_i h
  cases al
  exact h.choose_spec
 ·simp at al
theorem Xc{f:FuncId}{aq:List T}{r:T}(h:xn.h1 fun j=>chain P pol j f aq=some r):a0 P pol f aq=some r:=by
 have hex:∃ r,xn.h1 fun j=>chain P pol j f aq=some r:=⟨r,h⟩
 unfold a0
 rw[dif_pos hex]
 obtain⟨i,hi⟩:=hex.choose_spec
 obtain⟨k,an⟩:=h
 have ad:chain P pol (i+k) f aq=some hex.choose:=hi (i+k) (by omega)
 have ag:chain P pol (i+k) f aq=some r:=an (i+k) (by omega)
 exact ad.symm.trans ag
theorem azJ{K:eZ}{C:Nat→eZ}(dD:FT xn K C){n d:Nat}{f:FuncId}{aq:List T}{r:T}(h:wI P pol K n d f aq=some r):xn.h1 fun j=>wI P pol (C j) j j f aq=some r:=by
 unfold wI at h
 split at h
 ·rename_i v ai ab
  have bK:AI xn (inl P pol K n d) (fun j=>inl P pol (C j) j j):=fun g args h y J=>by
   obtain⟨i,hi⟩:=asY (P:=P) (pol:=pol) (n:=n) dD d g args h y J
   exact⟨i+d,fun j aU=>hi j (by omega) j (by omega)⟩
  exact xn.mono (ac2 (n':=fun j=>j) dD bK ⟨n,fun j aU=>aU⟩ ab) fun j aU=>by unfold wI;simp only[aU];exact h
 ·simp at h
theorem Xd{n d:Nat}{f:FuncId}{aq:List T}{r:T}(av:wB pol f aq=none)(h:wI P pol (a0 P pol) n d f aq=some r):a0 P pol f aq=some r:=by
 obtain⟨i,hi⟩:=azJ Xb h
 refine Xc ⟨i+1,fun j aU=>?_⟩
 obtain⟨k,rfl⟩:∃ k,j=k+1:=⟨j-1,by omega⟩
 simp only[chain,av]
 exact hi k (by omega)
theorem Xe{f:FuncId}{aq:List T}{r:T}(av:wB pol f aq=some r):a0 P pol f aq=some r:=by
 refine Xc ⟨1,fun j aU=>?_⟩
 obtain⟨k,rfl⟩:∃ k,j=k+1:=⟨j-1,by omega⟩
 simp only[chain,av]
structure Sound(P:Program)(pol:c4):Prop where
 mix:P.follows .mixedOrders=true
 prog:FV P pol n3
 u6:l2 P pol (wB pol)
theorem aiU(cE:Sound P pol):∀ j,l2 P pol (chain P pol j):=by
 letI:cf:=⟨fun f c=>codeOk pol n3 f c=true⟩
 intro j
 induction j with
 | zero=>intro f aq r h;simp[chain]at h
 | succ j au =>
  intro f aq r h
  simp only[chain]at h
  cases av:wB pol f aq with
  | some qG=>rw[av]at h;exact cE.u6 f aq r (by rw[av];exact h)
  | none =>
   rw[av]at h
   exact azK (ok:=n3) (fun f c=>Iff.rfl) cE.prog au (fun I bK=>KG cE.mix au bK) h
theorem A1(cE:Sound P pol):l2 P pol (a0 P pol):=by
 intro f aq r h
 obtain⟨i,hi⟩:=Xb f aq r h
 exact aiU cE i f aq r (hi i (bP _))
theorem auM(h:∀ f aq,pol.Jb f aq=none):l2 P pol pol.Jb:=by
 intro f aq r al
 rw[h]at al
 exact (by cases al)
theorem adV(h:∀ f,pol.u6 f=false)(aC:l2 P pol pol.Jb:=by exact auM (fun _ _=>rfl)):l2 P pol (wB pol):=by
 intro f aq r al
 simp only[wB,h,fJ,et]at al
 exact aC f aq r al
end Go.Abs
