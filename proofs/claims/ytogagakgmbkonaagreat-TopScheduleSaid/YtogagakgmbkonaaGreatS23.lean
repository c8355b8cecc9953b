/- Part 23 of the proof of TopSchedule. -/
import Derived.Test.YtogagakgmbkonaaGreatS22
set_option linter.all false
set_option maxRecDepth 100000
set_option maxHeartbeats 4000000
namespace Go.Proofs.YtogagakgmbkonaaGreat
open Go Go.Abs
structure Aw(t:bR)(L:List dg):Prop where
 l:L.length≤6
 ok:∀(j:Nat) s,L[j]? = some s→iM t s∧s.id=((j+1:Nat):Int)
theorem Aw.all{t:bR}{L:List dg}(h:Aw t L):∀ s∈L,iM t s:=fun s J=>by
 obtain⟨j,aU⟩:=w6.1 J
 exact(h.ok j s aU).1
theorem Aw.ne{t:bR}{L:List dg}(h:Aw t L):∀(i j:Nat) (a b:dg),L[i]? = some a→L[j]? = some b→i<j→a.id≠b.id:=fun i j a b ae ab gY=>by
 rw[(h.ok i a ae).2,(h.ok j b ab).2];omega
theorem af9(c1 c2 c:Bool)(t:bR)(h:g0 t=true)(l:List D2)(ao:∀ d∈l,GN d)(gk:l.length<9223372036854775808):∃ v,a0 Tryz.prog pol 7 [fY c1 c2 t,.aP c 8 (l.map zp)]=some v∧∃ L,v=.aP false 10 (L.map ek)∧Aw t L:=by
 refine qX (l.length+100) 1 aq1 (bH rfl) ?_
 simp only[T8,go_sem]
 have Cv:a9.row 10 [] 0=ev 10 ek []:=rfl
 rw[Cv]
 refine Ad (St:=fun k e ai=>∃(i:Nat) (L:List dg),(e 1=.t (.aP c 8 (l.map zp))∧e 2=.t (.ip (dO c1 c2 t))∧e 5=.ms 0 L.length 0 L.length 10 false∧e 6=.t (I (i:Nat)))∧i+k=l.length∧Aw t L∧ai=[ev 10 ek L])
  (Ex:=fun x e ai=>∃ L:List dg,x=.exit 0∧e 5=.ms 0 L.length 0 L.length 10 false∧Aw t L∧ai=[ev 10 ek L]) ?_ ?_ _ l.length _ _ (by omega) ?_
 ·rintro k e ai Y R ⟨i,L,⟨s1,s2,bC,bt⟩,xJ,eL,rfl⟩ bW bk
  have aBV:=eL.l
  generalize aE:decide (((i:Nat):Int)<((l.length:Nat):Int))=q
  cases q
  ·simp only[II,B9,go_sem,s1,s2,bC,bt,aE,bJ]
   all_goals(refine bk _ _ _ ⟨L,rfl,?_,eL,rfl⟩;simp only[go_sem,bC])
  ·have kY:=ka aE
   have hi:i<l.length:=by omega
   have U:l[i]? = some l[i]:=fC hi
   have aF:=ao _ (oP hi)
   generalize l[i]=d at *
   have bx:(l.map zp)[i]? = some (zp d):=by rw[eE,U];rfl
   have hw:IntKind.i64.wrap ((i:Nat)+1:Int)=((i+1:Nat):Int):=wrap_i64 (by omega) (by omega)
   have nX:IntKind.i64.wrap (((L.length:Nat):Int)+1)=((L.length+1:Nat):Int):=wrap_i64 (by omega) (by omega)
   generalize h6:decide (((L.length:Nat):Int)<6)=a7
   cases a7
   ·simp only[II,B9,go_sem,s1,s2,bC,bt,aE,h6,bJ]
    all_goals(refine bk _ _ _ ⟨L,rfl,?_,eL,rfl⟩;simp only[go_sem,bC])
   ·have aCb:=ka h6
    obtain⟨_,ya,rfl|⟨s,b,rfl,Rx,ab⟩⟩:=af8 c1 c2 t h d aF ((L.length+1:Nat):Int) (by omega)
    ·(repeat' first|simp only[II,B9,go_sem,s1,s2,bC,bt,aE,h6,bx,hi,hw,nX,ya,xp,bJ]|with_reducible first|refine aZ fun _=>?_|refine a1 ?_|fail)
     all_goals(refine bW (k-1) _ _ (by omega) ⟨i+1,L,?_,by omega,eL,rfl⟩;simp only[go_sem,s1,s2,bC,hw])
    ·have jP:lY 10 L.length (some (ev 10 ek L)):=ph
     have fr:(L.length+1)*96≤eQ:=l9 (by omega) (by omega)
     cases b
     ·(repeat' first|simp only[II,B9,go_sem,s1,s2,bC,bt,aE,h6,bx,hi,hw,nX,ya,xp,bJ]|with_reducible first|refine aZ fun _=>?_|refine a1 ?_|fail)
      all_goals(refine bW (k-1) _ _ (by omega) ⟨i+1,L,?_,by omega,eL,rfl⟩;simp only[go_sem,s1,s2,bC,hw])
     ·have ami:Aw t (L++[s]):=⟨by simp;omega,fun j s' gl=>by
       by_cases aU:j<L.length
       ·rw[fv aU]at gl;exact eL.ok j s' gl
       ·have rf:j=L.length:=by have:=(cD.1 gl).1;simp at this;omega
        subst rf
        simp only[y0,Option.some.injEq]at gl
        subst gl
        exact⟨ab rfl,Rx⟩⟩
      (repeat' first|simp only[II,B9,go_sem,s1,s2,bC,bt,aE,h6,bx,hi,hw,nX,ya,jP,fr,pg,pj,xp,bJ]|with_reducible first|refine aZ fun _=>?_|refine a1 ?_|fail)
      all_goals(refine bW (k-1) _ _ (by omega) ⟨i+1,L++[s],?_,by omega,ami,by rw[← yx]⟩;simp only[go_sem,s1,s2,hw,gT,vy])
 ·rintro x e ai ⟨L,rfl,dC,eL,rfl⟩
  have jP:lY 10 L.length (some (ev 10 ek L)):=ph
  simp only[T8,go_sem,dC,jP,pg,pj,Bg]
  exact⟨_,rfl,L,rfl,eL⟩
 ·refine⟨0,[],?_,by omega,⟨by simp,fun j s J=>by simp at J⟩,rfl⟩
  simp only[go_sem]
  all_goals trivial
def CP(a b c:Nat):fZ:=⟨100+20*(a:Int),((b % 40:Nat):Int),(c:Nat),8000⟩
theorem af6(a b c:Nat)(ae:a<256)(ab:b<256)(af:c<256):a0 Tryz.prog pol 6 [gi (a:Nat),gi (b:Nat),gi (c:Nat)]=some (sO (CP a b c)):=by
 have cI:IntKind.i64.wrap ((a:Nat):Int)=((a:Nat):Int):=wrap_i64 (by omega) (by omega)
 have dZ:IntKind.i64.wrap (20*((a:Nat):Int))=20*((a:Nat):Int):=wrap_i64 (by omega) (by omega)
 have hE:IntKind.i64.wrap (100+20*((a:Nat):Int))=100+20*((a:Nat):Int):=wrap_i64 (by omega) (by omega)
 have la:((b:Nat):Int).tmod 40=((b % 40:Nat):Int):=rfl
 have vi:IntKind.i64.wrap ((b % 40:Nat):Int)=((b % 40:Nat):Int):=wrap_i64 (by omega) (by omega)
 have yL:IntKind.i64.wrap ((c:Nat):Int)=((c:Nat):Int):=wrap_i64 (by omega) (by omega)
 refine cK 100 1 aqR (bH rfl) ?_
 simp only[acb,go_sem,cI,dZ,hE,la,vi,yL]
 all_goals rfl
theorem azf(a b c:Nat)(ae:a<256)(ab:b<256)(af:c<256):m4 (CP a b c):=⟨by simp only[CP];omega,by simp only[CP];omega,by simp only[CP];omega,by simp only[CP];omega⟩
theorem af7(c1 c2 c:Bool)(p:b7)(iG:p.aK.length≤12)(ow:∀ x∈p.aK,1≤x∧x≤240)(l:List Nat)(ao:∀ x∈l,x<256)(gk:l.length<9223372036854775808) :
  ∃ v,a0 Tryz.prog pol 10 [g1 c1 c2 p,.aP c 1 (l.map fun n=>gi (n:Nat))]=some v∧∃ o,v=.aP false 1 (o.map I)∧tO p o:=by
 refine qX 200 1 apg (bH rfl) ?_
 simp only[Sz,go_sem]
 have Cv:a9.row 1 [] 0=ev 1 I []:=rfl
 rw[Cv]
 refine hA p.aK I (St:=fun i e ai=>∃ o:List Int,(e 1=.t (.aP c 1 (l.map fun n=>gi (n:Nat)))∧e 2=.t (.ip (j4 c1 c2 p))∧e 5=.ms 0 i 0 i 1 false∧e 6=.t (I (i:Nat)))∧o.length=i∧(∀(j:Nat) x,o[j]? = some x→0≤x∧x<bT p (j:Nat))∧ai=[ev 1 I o])
  (Ex:=fun x e ai=>∃ o:List Int,x=.exit 0∧e 5=.ms 0 o.length 0 o.length 1 false∧tO p o∧ai=[ev 1 I o]) (by omega) ?_ ?_ (by omega) ?_ ?_
 ·rintro i P e ai Y R hm hi U bx aB hw ⟨o,⟨s1,s2,bC,bt⟩,qn,ck,rfl⟩ bW bk
  obtain⟨cP,dc⟩:=ow P hm
  have QR:bT p (i:Nat)=P:=by unfold bT;rw[ld,U];rfl
  have jP:lY 1 i (some (ev 1 I o)):=by have:=ph (k:=1) (enc:=I) (l:=o);rwa[qn]at this
  have fr:(i+1)*8≤eQ:=l9 (by omega) (by omega)
  have ee:∀ v:Int,0≤v→v<P→(o++[v]).length=i+1∧∀(j:Nat) x,(o++[v])[j]? = some x→0≤x∧x<bT p (j:Nat):=fun v v0 v1=>⟨by simp[qn],fun j x aU=>by
   by_cases anB:j<o.length
   ·rw[fv anB]at aU;exact ck j x aU
   ·have rf:j=o.length:=by have:=(cD.1 aU).1;simp at this;omega
    subst rf
    simp only[y0,Option.some.injEq]at aU
    subst aU
    rw[qn,QR];omega⟩
  generalize aE:decide (((i:Nat):Int)<((l.length:Nat):Int))=q
  cases q
  ·have cF:=ee 0 (by omega) (by omega)
   (repeat' first|simp only[SA,H5,go_sem,s1,s2,bC,bt,aB,hw,aE,jP,fr,pg,pj,yx,Bj,bJ]|with_reducible first|refine aZ fun _=>?_|refine a1 ?_|fail)
   all_goals(refine bW _ _ ⟨_,?_,cF.1,cF.2,rfl⟩;simp only[go_sem,s1,s2,hw])
  ·have qj:=ka aE
   have Rz:i<l.length:=by omega
   have Si:l[i]? = some l[i]:=fC Rz
   have ab:=ao _ (oP Rz)
   generalize l[i]=b at *
   have xr:(l.map fun n=>gi (n:Nat))[i]? = some (gi (b:Nat)):=by rw[eE,Si];rfl
   have aAQ:IntKind.i64.wrap ((b:Nat):Int)=((b:Nat):Int):=wrap_i64 (by omega) (by omega)
   have tb:((b:Nat):Int).tmod P=((b:Nat):Int) % P:=jZ (by omega)
   have ft:P≠0:=by omega
   have cF:=ee (((b:Nat):Int) % P) (nG _ ft) (l5 _ (by omega))
   generalize ((b:Nat):Int) % P=v at *
   (repeat' first|simp only[SA,H5,go_sem,s1,s2,bC,bt,aB,hw,aE,bx,hi,Rz,xr,aAQ,tb,ft,jP,fr,pg,pj,yx,Bj,bJ]|with_reducible first|refine aZ fun _=>?_|refine a1 ?_|fail)
   all_goals(refine bW _ _ ⟨_,?_,cF.1,cF.2,rfl⟩;simp only[go_sem,s1,s2,hw])
 ·rintro e ai Y R aB ⟨o,⟨s1,s2,bC,bt⟩,qn,ck,rfl⟩ bk
  simp only[SA,H5,go_sem,s1,s2,bC,bt,aB,bJ]
  all_goals(refine bk _ _ _ ⟨o,rfl,?_,⟨qn,ck⟩,rfl⟩;simp only[go_sem,bC,qn])
 ·refine⟨[],?_,rfl,fun j x aU=>by simp at aU,rfl⟩
  simp only[go_sem]
  all_goals trivial
 ·rintro x e ai ⟨o,rfl,dC,aC,rfl⟩
  have jP:lY 1 o.length (some (ev 1 I o)):=ph
  simp only[Sz,go_sem,dC,jP,pg,pj,Bg]
  exact⟨_,rfl,o,rfl,aC⟩
structure jW where
 ma:Int
 st:Int
 b1:List Int
 homes:List Int
 lW:List Int
 nP:List Int
abbrev X0(c1 c2 dh eP:Bool)(d:jW):List T:=[gi d.ma,gi d.st,.aP c1 1 (d.b1.map gi),.aP c2 1 (d.homes.map gi),.aP dh 1 (d.lW.map gi),.aP eP 1 (d.nP.map gi)]
abbrev th(c1 c2 dh eP:Bool)(d:jW):T:=.agg (X0 c1 c2 dh eP d)
structure vF(d:jW):Prop where
 ma:0≤d.ma∧d.ma<256
 st:0≤d.st∧d.st<256
 b1:FH d.b1
 homes:FH d.homes
 lW:FH d.lW
 nP:FH d.nP
def fh(d:jW)(n:Nat)(a b:Int):dK:=⟨a,b,1+bq d.lW n % 20,bq d.nP n % 50⟩
def sy(L:List dK)(a b:Int):Bool:=L.any (fun l=>decide (l.a=a∧l.b=b∨l.a=b∧l.b=a))
def vm(d:jW)(N:Int)(st:List Bool)(L:List dK)(a b:Int):List dK :=
 if L.length=24∨sD ⟨N,st,L⟩ (fh d L.length a b)=false then L else if sy L a b=true then L else L++[fh d L.length a b]
theorem aBd{d:jW}{N:Int}{st:List Bool}{L:List dK}{a b:Int}(h:L.length≤24):(vm d N st L a b).length≤24:=by
 unfold vm
 split
 ·exact h
 ·rename_i ad
  split
  ·exact h
  ·have:L.length≠24:=fun h=>ad (.inl h)
   simp;omega
abbrev rR:T:=.agg [I 0,.aA (.slice none 0 0),.aA (.slice none 0 0)]
abbrev hT(N:Int)(s q:Nat):List ah:=[.t (I N),.ms 1 s 0 s 1 false,.ms 2 q 0 q 4 false]
def e8(N:Int)(st:List Bool)(L:List dK)(s q aG:Nat):aj:=[.row 3 [.t rR] 0,.row 1 ((st.map B).map .t) 0,.row 4 ((L.map dH).map .t) 0,.row 3 [.agg (hT N s q)] aG]
def kz(N:Int)(s gD hL hk:Nat)(l:dK):aj:=[.row 3 [.agg (hT N s gD)] hL,.row 3 [.agg (hT N s hk)] 1,.row 4 [.t (nm l)] 1]
theorem JH(c1 c2 dh eP:Bool)(d:jW)(aF:vF d)(N:Int)(st:List Bool)(L:List dK)(aS:(st.length:Int)=N)(eL:L.length≤24)(bG:N≤12)(aG:Nat)(bN:aG≤1)(a b:Int)(bn aR:Nat)(aw:100<aR)(Q:ah→aj→Prop)
  (bI:∀ gD hL hk l,hL≤1→Q (.agg (hT N st.length (vm d N st L a b).length)) (e8 N st (vm d N st L a b) st.length L.length aG++kz N st.length gD hL hk l)) :
  ej (inl Tryz.prog pol (a0 Tryz.prog pol) aR (bn+1) (.fn 17) [.t (th c1 c2 dh eP d),.agg (hT N st.length L.length),.t (I a),.t (I b)] (e8 N st L st.length L.length aG)) Q:=by
 have bB:=Cq dh d.lW L.length aF.lW
 have aO:=Cq eP d.nP L.length aF.nP
 have cN:=rG aF.lW L.length
 have db:=rG aF.nP L.length
 have t1:(bq d.lW L.length).tmod 20=bq d.lW L.length % 20:=jZ cN.1
 have t2:(bq d.nP L.length).tmod 50=bq d.nP L.length % 50:=jZ db.1
 have v1:IntKind.i64.wrap (bq d.lW L.length % 20)=bq d.lW L.length % 20:=wrap_i64 (by omega) (by omega)
 have v2:IntKind.i64.wrap (bq d.nP L.length % 50)=bq d.nP L.length % 50:=wrap_i64 (by omega) (by omega)
 have iZ:IntKind.i64.wrap (1+bq d.lW L.length % 20)=1+bq d.lW L.length % 20:=wrap_i64 (by omega) (by omega)
 have ed:=ac4 false false ⟨N,st,L⟩ (fh d L.length a b) aS
 simp only[fh]at ed
 have fA:((st.map B).map ah.t).length=st.length:=by simp
 have eC:((L.map dH).map ah.t).length=L.length:=by simp
 have hw:vm d N st L a b=if L.length=24∨sD ⟨N,st,L⟩ (fh d L.length a b)=false then L else if sy L a b=true then L else L++[fh d L.length a b]:=rfl
 have fr:(L.length+1)*32≤eQ:=l9 (by omega) (by omega)
 by_cases G8:L.length=24
 ·have d1:decide ((L.length:Int)=24)=true:=bY (by omega)
  rw[hw,a6 (.inl G8)]at bI
  simp only[e8,kz]at bI ⊢
  with_reducible refine lp Er ?_ ?_
  ·exact bH rfl
  (repeat' first|simp only[uW,go_sem,bB,aO,t1,t2,v1,v2,iZ,d1,bN,fA,eC]|with_reducible first|refine aZ fun _=>?_|refine a1 ?_|fail)
  all_goals exact bI _ _ _ (fh d L.length a b) (by omega)
 have d1:decide ((L.length:Int)=24)=false:=bA (by omega)
 cases sq:sD ⟨N,st,L⟩ (fh d L.length a b)with
 | false =>
  rw[hw,a6 (.inr sq)]at bI
  simp only[fh]at sq
  rw[sq]at ed
  simp only[e8,kz]at bI ⊢
  with_reducible refine lp Er ?_ ?_
  ·exact bH rfl
  (repeat' first|simp only[uW,go_sem,bB,aO,t1,t2,v1,v2,iZ,ed,d1,bN,fA,eC]|with_reducible first|refine aZ fun _=>?_|refine a1 ?_|fail)
  all_goals exact bI _ _ _ (fh d L.length a b) (by omega)
 | true =>
  rw[hw,a2 (by rintro(h|h);exact G8 h;rw[sq]at h;cases h)]at bI
  have Ht:=sq
  simp only[fh]at Ht
  rw[Ht]at ed
  have xW:((L.map dH).map ah.t)++[.t (nm (fh d L.length a b))]=(((L++[fh d L.length a b]).map dH).map ah.t):=by simp[dH]
  simp only[fh]at xW
  simp only[e8,kz]at bI ⊢
  with_reducible refine lp Er ?_ ?_
  ·exact bH rfl
  (repeat' first|simp only[uW,go_sem,bB,aO,t1,t2,v1,v2,iZ,ed,d1,bN,fA,eC]|with_reducible first|refine aZ fun _=>?_|refine a1 ?_|fail)
  refine k4 L dH (step:=fun i x (_:Unit)=>if(decide (x.a=a∧x.b=b∨x.a=b∧x.b=a))=true then dQ.out true else dQ.go ()) (fin:=fun _=>false)
   (St:=fun i _ e h=>(e 2=.t (I a)∧e 3=.t (I b)∧e 5=.ref 4 1 0 0∧e 8=.ref 5 1 0 0∧e 9=.t (I (L.length:Nat))∧e 10=.ref 6 1 0 0∧e 11=.t (I (i:Nat)))∧h=[.row 3 [.t rR] 0,.row 1 ((st.map B).map .t) 0,.row 4 ((L.map dH).map .t) 0,.row 3 [.agg (hT N st.length L.length)] aG,.row 3 [.agg (hT N st.length L.length)] 0,.row 3 [.t rR] 0,.row 4 [.t (nm (fh d L.length a b))] 1])
   (Ex:=fun r x e h=>(e 8=.ref 5 1 0 0∧(r=false→e 5=.ref 4 1 0 0∧e 10=.ref 6 1 0 0))∧(r=true∧x=.ret∧h=[.row 3 [.t rR] 0,.row 1 ((st.map B).map .t) 0,.row 4 ((L.map dH).map .t) 0,.row 3 [.agg (hT N st.length L.length)] aG,.row 3 [.agg (hT N st.length L.length)] 0,.row 3 [.agg (hT N st.length L.length)] 1,.row 4 [.t (nm (fh d L.length a b))] 1]∨r=false∧x=.exit 0∧h=[.row 3 [.t rR] 0,.row 1 ((st.map B).map .t) 0,.row 4 ((L.map dH).map .t) 0,.row 3 [.agg (hT N st.length L.length)] aG,.row 3 [.agg (hT N st.length L.length)] 0,.row 3 [.t rR] 0,.row 4 [.t (nm (fh d L.length a b))] 1])) (s:=()) (by omega) ?_ ?_ (by omega) ?_ ?_
  ·intro i x _ e h Y gn hm hi U bx aB je ⟨J,aY⟩ an
   subst aY
   have gb:=acN x a b
   have ou:((L.map dH).map ah.t)[i]? = some (.t (nm x)):=Ci (enc:=dH) U
   by_cases aU:(x.a=a∧x.b=b∨x.a=b∧x.b=a)
   ·have uG:=bY aU
    rw[uG]at gb
    rw[a6 uG,lg]at an
    simp only[fh]at an ⊢
    simp only[Es,zZ,go_sem,J,aB,ou,eC,gb,hi,bN]
    all_goals(refine an _ _ _ ⟨⟨?_,by simp⟩,.inl ⟨by simp,rfl,rfl⟩⟩;simp only[go_sem,J])
   ·have uG:=bA aU
    rw[uG]at gb
    rw[a2 (by rw[uG];simp),g6]at an
    simp only[fh]at an ⊢
    (repeat' first|simp only[Es,zZ,go_sem,J,aB,je,ou,eC,gb,hi,bN]|with_reducible first|refine aZ fun _=>?_|refine a1 ?_|fail)
    all_goals(refine an _ _ ⟨?_,rfl⟩;simp only[go_sem,J,je])
  ·intro _ e h Y gn aB ⟨J,aY⟩ an
   subst aY
   simp only[fh]at an ⊢
   simp only[Es,zZ,go_sem,J,aB]
   all_goals(refine an _ _ _ ⟨⟨?_,fun _=>?_⟩,.inr ⟨by simp,rfl,rfl⟩⟩<;>simp only[go_sem,J,Gk])
  ·refine⟨?_,rfl⟩
   simp only[go_sem]
  ·intro x e h ⟨⟨mO,dC⟩,U⟩
   have vS:∀(l:List dK) (k:Nat),gJ (fun i (x:dK) (_:Unit)=>if(decide (x.a=a∧x.b=b∨x.a=b∧x.b=a))=true then dQ.out true else dQ.go ()) (fun _=>false) k l ()=sy l a b:=by
    intro l
    induction l with
    | nil=>intro k;rfl
    | cons y l au =>
     intro k
     by_cases ar:(decide (y.a=a∧y.b=b∨y.a=b∧y.b=a))=true
     ·rw[q3 (r:=true) (a6 ar)]
      simp only[sy,Kk,ar,Ke]
     ·rw[ng (s':=()) (a2 ar),au]
      have pS:(decide (y.a=a∧y.b=b∨y.a=b∧y.b=a))=false:=by simpa using ar
      simp only[sy,Kk,pS,Gb]
   rw[vS]at U dC
   rcases U with⟨ab,rfl,rfl⟩|⟨ab,rfl,rfl⟩
   ·rw[ab,a6 rfl]at bI
    simp only[uW,go_sem,mO]
    all_goals exact bI _ _ _ (fh d L.length a b) (by omega)
   ·rw[ab,a2 (by simp)]at bI
    obtain⟨dC,QE⟩:=dC ab
    simp only[gT,jc,lF,fh]at bI
    rw[← xW]at bI
    simp only[uW,go_sem,mO,dC,QE,eC,fr,bN]
    all_goals exact bI _ _ _ (fh d L.length a b) (by omega)
section
variable(d:jW)
def aV:Nat:=(1+d.ma % 6).toNat
def cH:Nat:=(2+d.st % 5).toNat
def cu:List Bool:=(List.range (aV d+cH d)).map (fun n=>decide (aV d≤n))
def en(L:List dK)(a b:Int):List dK:=vm d ((aV d+cH d:Nat):Int) (cu d) L a b
def om:List dK:=(List.range (aV d-1)).foldl (fun L i=>en d L (i:Nat) ((i+1:Nat):Int)) []
def oU:List dK:=(List.range (cH d)).foldl (fun L s=>en d L ((aV d+s:Nat):Int) (bq d.homes (2*s) % (aV d:Nat))) (om d)
def jI:List dK:=if 2<aV d∧d.ma % 2=0 then en d (oU d) ((aV d-1:Nat):Int) 0 else oU d
def oV:List dK:=(List.range (cH d)).foldl (fun L s=>if 0<bq d.homes (2*s+1) % 3 then en d L ((aV d+s:Nat):Int) (bq d.homes (2*s+1) % (aV d:Nat))else L) (jI d)
def nf:List dK:=(List.range (min 6 (d.b1.length / 2))).foldl (fun L i=>en d L (bq d.b1 (2*i) % (aV d:Nat)) (bq d.b1 (2*i+1) % (aV d:Nat))) (oV d)
def kU:bR:=⟨((aV d+cH d:Nat):Int),cu d,nf d⟩
end
theorem zs{α:Type}{enc:α→T}{k aG:Nat}{l:List α}{h:aj}{p:Nat→Bool}:dk h p (.row k ((l.map enc).map .t) aG)=some (.row k ((l.map enc).map .t) aG):=by simp only[dk,zj,cQ]
theorem wR{d:jW}{L:List dK}{a b:Int}(h:L.length≤24):(en d L a b).length≤24:=aBd h
theorem Qk{α:Type}{f:List dK→α→List dK}(aI:∀ L a,L.length≤24→(f L a).length≤24):∀(l:List α) (L:List dK),L.length≤24→(l.foldl f L).length≤24:=by
 intro l
 induction l with
 | nil=>intro L h;exact h
 | cons a l au=>intro L h;exact au _ (aI _ _ h)
theorem KF(d:jW):(cu d).length=aV d+cH d:=by simp[cu]
theorem tc{d:jW}(h:vF d):1≤aV d∧aV d≤6∧((aV d:Nat):Int)=1+d.ma % 6:=by
 have:=h.ma
 unfold aV;omega
theorem tV{d:jW}(h:vF d):2≤cH d∧cH d≤6∧((cH d:Nat):Int)=2+d.st % 5:=by
 have:=h.st
 unfold cH;omega
theorem DH{df:Type}(f:Nat→df→df):∀(k i:Nat) (s:df),gJ (ρ:=df) (fun i (_:Unit) s=>dQ.go (f i s)) id i (List.replicate k ()) s=(List.range' i k).foldl (fun s i=>f i s) s:=by
 intro k
 induction k with
 | zero=>intro i s;rfl
 | succ k au=>intro i s;rw[pB,ng (s':=f i s) rfl,au,vA,p8]
section
variable(c1 c2 dh eP:Bool)(d:jW)(aF:vF d)
abbrev fw(c1 c2 dh eP:Bool)(d:jW)(e:aM):Prop:=e 1=.t (.ip (X0 c1 c2 dh eP d))∧e 2=.ref 0 1 0 0∧e 3=.t (I (aV d:Nat))∧e 5=.ref 3 1 0 0
include aF
theorem azL(bn aR:Nat)(aw:100<aR)(R:cW→aM→aj→Prop)(e:aM)(he:fw c1 c2 dh eP d e∧e 4=.t (I (cH d:Nat))∧e 6=.t (I 0))
  (bk:∀ e,fw c1 c2 dh eP d e∧e 4=.t (I (cH d:Nat))→R (.exit 0) e (e8 ((aV d+cH d:Nat):Int) (cu d) [] (cu d).length 0 1)) :
  gP 4 (some [1,2,3,4,5,6]) (c6 Tryz.prog pol (a0 Tryz.prog pol) (inl Tryz.prog pol (a0 Tryz.prog pol) aR bn) aR 5 TS) R aR e (e8 ((aV d+cH d:Nat):Int) [] [] 0 0 1):=by
 obtain⟨cN,db,eG⟩:=tc aF
 obtain⟨s1,s2,a8⟩:=tV aF
 refine wj (aV d+cH d) (step:=fun i (st:List Bool)=>.go (st++[decide (aV d≤i)])) (fin:=id)
  (St:=fun i st e h=>(fw c1 c2 dh eP d e∧e 4=.t (I (cH d:Nat))∧e 6=.t (I (i:Nat)))∧st.length=i∧h=e8 ((aV d+cH d:Nat):Int) st [] st.length 0 1)
  (Ex:=fun st x e h=>(fw c1 c2 dh eP d e∧e 4=.t (I (cH d:Nat)))∧x=.exit 0∧h=e8 ((aV d+cH d:Nat):Int) st [] st.length 0 1) (s:=[]) (by omega) ?_ ?_ (by omega) ?_ ?_
 ·intro i st e h Y R hi aB hw ⟨⟨⟨aT,aW,bw,bZ⟩,cB,hW⟩,ao,aY⟩ an
  subst aY
  simp only[g6]at an
  have fr:(st.length+1)*1≤eQ:=l9 (by omega) (by omega)
  have fA:((st.map B).map ah.t).length=st.length:=by simp
  have xW:((st.map B).map ah.t)++[.t (B (decide (aV d≤i)))]=(((st++[decide (aV d≤i)]).map B).map ah.t):=by simp
  have jL:decide (((aV d:Nat):Int)≤(i:Nat))=decide (aV d≤i):=by congr 1;simp
  simp only[e8]at an ⊢
  rw[← xW]at an
  simp only[gT,jc,lF]at an
  (repeat' first|simp only[abZ,MC,go_sem,aT,aW,bw,cB,bZ,hW,aB,hw,jL,fA,fr]|with_reducible first|refine aZ fun _=>?_|refine a1 ?_|fail)
  all_goals(refine an _ _ ⟨?_,by omega,?_⟩<;>simp only[go_sem,fw,aT,aW,bw,cB,bZ,hW,hw])
 ·intro st e h Y R aB ⟨⟨⟨aT,aW,bw,bZ⟩,cB,hW⟩,ao,aY⟩ an
  subst aY
  simp only[e8]at an ⊢
  simp only[abZ,MC,go_sem,aT,aW,bw,cB,bZ,hW,aB]
  all_goals(refine an _ _ _ ⟨?_,rfl,rfl⟩;simp only[go_sem,fw,aT,aW,bw,cB,bZ,hW])
 ·exact⟨he,rfl,rfl⟩
 ·intro x e h ⟨ad,ag,aJ⟩
  have aI:∀(k i:Nat) (o:List Bool),gJ (ρ:=List Bool) (fun i (_:Unit) o=>dQ.go (o++[decide (aV d≤i)])) id i (List.replicate k ()) o=o++(List.range' i k).map (fun n=>decide (aV d≤n)):=by
   intro k
   induction k with
   | zero=>intro i o;simp[gJ]
   | succ k au=>intro i o;rw[pB,ng (s':=o++[decide (aV d≤i)]) rfl,au,vA];simp
  rw[aI,ea,← sZ]at aJ
  subst ag aJ
  exact bk _ ad
theorem azM(bn aR:Nat)(aw:100<aR)(R:cW→aM→aj→Prop)(e:aM)(he:fw c1 c2 dh eP d e∧e 4=.t (I (cH d:Nat))∧e 7=.t (I 1))
  (bk:∀ e,fw c1 c2 dh eP d e∧e 4=.t (I (cH d:Nat))→R (.exit 2) e (e8 ((aV d+cH d:Nat):Int) (cu d) (om d) (cu d).length (om d).length 1)) :
  gP 4 (some [1,2,3,4,5,7]) (c6 Tryz.prog pol (a0 Tryz.prog pol) (inl Tryz.prog pol (a0 Tryz.prog pol) aR (bn+1)) aR 5 TT) R aR e (e8 ((aV d+cH d:Nat):Int) (cu d) [] (cu d).length 0 1):=by
 obtain⟨cN,db,eG⟩:=tc aF
 obtain⟨s1,s2,a8⟩:=tV aF
 have aS:((cu d).length:Int)=((aV d+cH d:Nat):Int):=by rw[KF]
 refine wj (aV d-1) (step:=fun i (L:List dK)=>.go (en d L (i:Nat) ((i+1:Nat):Int))) (fin:=id)
  (St:=fun i L e h=>(fw c1 c2 dh eP d e∧e 4=.t (I (cH d:Nat))∧e 7=.t (I ((i+1:Nat):Int)))∧L.length≤24∧h=e8 ((aV d+cH d:Nat):Int) (cu d) L (cu d).length L.length 1)
  (Ex:=fun L x e h=>(fw c1 c2 dh eP d e∧e 4=.t (I (cH d:Nat)))∧x=.exit 2∧h=e8 ((aV d+cH d:Nat):Int) (cu d) L (cu d).length L.length 1) (s:=[]) (by omega) ?_ ?_ (by omega) ?_ ?_
 ·intro i L e h Y R hi _ _ ⟨⟨⟨aT,aW,bw,bZ⟩,cB,mL⟩,ao,aY⟩ an
  subst aY
  simp only[g6]at an
  have aB:decide (((i+1:Nat):Int)<(aV d:Nat))=true:=bY (by omega)
  have v1:IntKind.i64.wrap (((i+1:Nat):Int)-1)=(i:Nat):=by rw[wrap_i64 (by omega) (by omega)];omega
  have v2:IntKind.i64.wrap (((i+1:Nat):Int)+1)=((i+1+1:Nat):Int):=by rw[wrap_i64 (by omega) (by omega)];omega
  have ey:=@JH c1 c2 dh eP d aF ((aV d+cH d:Nat):Int) (cu d) L aS ao (by omega) 1 (bP _) (i:Nat) ((i+1:Nat):Int) bn aR aw
  have hR:=an
  have eC:(en d L (i:Nat) ((i+1:Nat):Int)).length≤24:=wR ao
  change ∀ Q:ah→aj→Prop,(∀ gD hL hk l,hL≤1→Q (.agg (hT _ (cu d).length (en d L (i:Nat) ((i+1:Nat):Int)).length)) (e8 _ (cu d) (en d L (i:Nat) ((i+1:Nat):Int)) (cu d).length L.length 1++kz _ (cu d).length gD hL hk l))→_ at ey
  generalize en d L (i:Nat) ((i+1:Nat):Int)=FQ at *
  simp only[e8,kz,th,dS,ea]at ey an ⊢
  simp only[ab0,MD,go_sem,aT,aW,bw,cB,bZ,mL,aB,v1,v2]
  with_reducible refine ey _ ?_
  intro gD hL hk l vT
  simp only[dS,ea,go_sem,aT,aW,bw,cB,bZ,mL,v2,zs]
  all_goals(refine an _ _ ⟨?_,eC,?_⟩<;>simp only[go_sem,fw,aT,aW,bw,cB,bZ,mL,v2])
 ·intro L e h Y R _ ⟨⟨⟨aT,aW,bw,bZ⟩,cB,mL⟩,ao,aY⟩ an
  subst aY
  have aB:decide (((aV d-1+1:Nat):Int)<(aV d:Nat))=false:=bA (by omega)
  simp only[e8]at an ⊢
  simp only[ab0,MD,go_sem,aT,aW,bw,cB,bZ,mL,aB]
  all_goals(refine an _ _ _ ⟨?_,rfl,rfl⟩;simp only[go_sem,fw,aT,aW,bw,cB,bZ,mL])
 ·exact⟨he,uv _,rfl⟩
 ·intro x e h ⟨ad,ag,aJ⟩
  rw[DH (fun i L=>en d L (i:Nat) ((i+1:Nat):Int)),← sZ]at aJ
  subst ag aJ
  exact bk _ ad
end
end Go.Proofs.YtogagakgmbkonaaGreat
namespace Go.Proofs.YtogagakgmbkonaaGreat
def CF{α:Type}(f:Nat→α)(i:Nat)(x:α):Nat→α:=fun j=>if j=i then x else f j
theorem NV{α:Type}{f:Nat→α}{i:Nat}{x:α}:CF f i x i=x:=by simp[CF]
theorem NU{α:Type}{f:Nat→α}{i j:Nat}{x:α}(h:j≠i):CF f i x j=f j:=by simp[CF,h]
structure j8 where
 a:Nat
 b:Nat
 w:Int
 deriving DecidableEq
def iter{df:Type}(f:df→df):Nat→df→df
 | 0,s=>s
 | n+1,s=>f (iter f n s)
def oT(N:Nat)(S:Nat→Bool):Nat:=((List.range N).filter S).length
theorem aje(N:Nat)(S:Nat→Bool):oT N S≤N:=by
 have:=AR S (List.range N)
 simpa[oT]using this
theorem KA(N:Nat)(S:Nat→Bool):oT (N+1) S=oT N S+(if S N then 1 else 0):=by
 simp only[oT,y4,J0,gT]
 congr 1
 cases h:S N<;>simp[h]
theorem ajf{N:Nat}{S S':Nat→Bool}(h:∀ i,i<N→S i=true→S' i=true):oT N S≤oT N S':=by
 induction N with
 | zero=>simp[oT]
 | succ N au =>
  have ad:=au (fun i hi=>h i (by omega))
  rw[KA,KA]
  have ag:=h N (by omega)
  cases cE:S N with
  | false=>simp;omega
  | true=>simp[ag cE];omega
theorem XP{N:Nat}{S S':Nat→Bool}(h:∀ i,i<N→S i=true→S' i=true){j:Nat}(aU:j<N)(ad:S j=false)(ag:S' j=true):oT N S+1≤oT N S':=by
 induction N with
 | zero=>omega
 | succ N au =>
  rw[KA,KA]
  by_cases anA:j=N
  ·subst anA
   have:=ajf (N:=j) (S:=S) (S':=S') (fun i hi=>h i (by omega))
   simp[ad,ag];omega
  ·have:=au (fun i hi=>h i (by omega)) (by omega)
   have aJ:=h N (by omega)
   cases cE:S N with
   | false=>simp;omega
   | true=>simp[aJ cE];omega
def ta(S:Nat→Bool)(e:j8):Nat→Bool:=CF S e.a (S e.a || S e.b)
def gE(E:List j8)(S:Nat→Bool):Nat→Bool:=E.foldl ta S
theorem Xr{S:Nat→Bool}{e:j8}{i:Nat}(h:S i=true):ta S e i=true:=by
 unfold ta CF
 split
 ·rename_i ai;subst ai;simp[h]
 ·exact h
theorem FB:∀(E:List j8) {S:Nat→Bool} {i:Nat},S i=true→gE E S i=true:=by
 intro E
 induction E with
 | nil=>intro S i h;exact h
 | cons e E au=>intro S i h;exact au (Xr h)
theorem ayP:∀(E:List j8) {S:Nat→Bool} {e:j8},e∈E→S e.b=true→gE E S e.a=true:=by
 intro E
 induction E with
 | nil=>intro S e h;cases h
 | cons bs E au =>
  intro S e h ab
  cases h with
  | head=>exact FB E (by unfold ta;rw[NV,ab,Bool.or_true])
  | tail _ h=>exact au h (Xr ab)
theorem aeN{N:Nat}:∀(E:List j8) (dm:∀ e∈E,e.a<N) {S:Nat→Bool} {i:Nat},N≤i→gE E S i=S i:=by
 intro E
 induction E with
 | nil=>intro _ S i h;rfl
 | cons e E au =>
  intro dm S i h
  have ad:=dm e (by simp)
  have:=au (fun e he=>dm e (by simp[he])) (S:=ta S e) h
  show gE E (ta S e) i=_
  rw[this]
  unfold ta
  rw[NU (by omega)]
theorem ay2{N:Nat}{E:List j8}(dm:∀ e∈E,e.a<N)(S:Nat→Bool):gE E (iter (gE E) N S)=iter (gE E) N S:=by
 have step:∀ k,(gE E (iter (gE E) k S)=iter (gE E) k S)∨k+1≤oT N (iter (gE E) (k+1) S):=by
  intro k
  induction k with
  | zero =>
   by_cases h:gE E S=S
   ·exact .inl h
   ·right
    have:∃ j,gE E S j≠S j:=C8 fun aw=>h (funext fun j=>C8 fun aU=>aw ⟨j,aU⟩)
    obtain⟨j,aU⟩:=this
    have RB:j<N:=Nat.lt_of_not_le fun hle=>aU (aeN E dm hle)
    have aI:S j=false:=by
     cases cE:S j with
     | false=>rfl
     | true=>exact absurd (by rw[FB E cE,cE]) aU
    have ax:gE E S j=true:=by
     cases cE:gE E S j with
     | true=>rfl
     | false=>exact absurd (by rw[cE,aI]) aU
    have:=XP (N:=N) (S:=S) (S':=gE E S) (fun i _ hi=>FB E hi) RB aI ax
    show 0+1≤oT N (gE E S)
    omega
  | succ k au =>
   rcases au with h|h
   ·left
    show gE E (gE E (iter (gE E) k S))=gE E (iter (gE E) k S)
    rw[h,h]
   ·by_cases J:gE E (iter (gE E) (k+1) S)=iter (gE E) (k+1) S
    ·exact .inl J
    ·right
     generalize Hf:iter (gE E) (k+1) S=T at *
     have:∃ j,gE E T j≠T j:=C8 fun aw=>J (funext fun j=>C8 fun aU=>aw ⟨j,aU⟩)
     obtain⟨j,aU⟩:=this
     have RB:j<N:=Nat.lt_of_not_le fun hle=>aU (aeN E dm hle)
     have aI:T j=false:=by
      cases cE:T j with
      | false=>rfl
      | true=>exact absurd (by rw[FB E cE,cE]) aU
     have ax:gE E T j=true:=by
      cases cE:gE E T j with
      | true=>rfl
      | false=>exact absurd (by rw[cE,aI]) aU
     have:=XP (N:=N) (S:=T) (S':=gE E T) (fun i _ hi=>FB E hi) RB aI ax
     show k+1+1≤oT N (gE E (iter (gE E) (k+1) S))
     rw[Hf]
     omega
 rcases step N with h|h
 ·exact h
 ·have:=aje N (iter (gE E) (N+1) S);omega
inductive l1(E:List j8):Nat→Nat→Prop
 | refl (i:Nat):l1 E i i
 | step {e:j8} {k:Nat}:e∈E→l1 E e.b k→l1 E e.a k
theorem l1.trans{E:List j8}{i j k:Nat}(ad:l1 E i j)(ag:l1 E j k):l1 E i k:=by
 induction ad with
 | refl=>exact ag
 | step he _ au=>exact .step he (au ag)
def azg(E:List j8):Prop:=∀ e∈E,(⟨e.b,e.a,e.w⟩:j8)∈E
theorem l1.symm{E:List j8}(J:azg E){i j:Nat}(h:l1 E i j):l1 E j i:=by
 induction h with
 | refl=>exact .refl _
 | step he _ au=>exact au.trans (.step (e:=⟨_,_,_⟩) (J _ he) (.refl _))
theorem l1.const{E:List j8}{α:Type}{f:Nat→α}(aI:∀ e∈E,f e.a=f e.b){i j:Nat}(h:l1 E i j):f i=f j:=by
 induction h with
 | refl=>rfl
 | step he _ au=>rw[aI _ he,au]
theorem awS{N:Nat}{E:List j8}(dm:∀ e∈E,e.a<N)(s i:Nat):iter (gE E) N (fun j=>decide (j=s)) i=true↔l1 E i s:=by
 constructor
 ·have key:∀(rS:List j8),(∀ e∈rS,e∈E)→∀ S:Nat→Bool,(∀ i,S i=true→l1 E i s)→∀ i,gE rS S i=true→l1 E i s:=by
   intro rS
   induction rS with
   | nil=>intro _ S h;exact h
   | cons e rS au =>
    intro hm S h
    refine au (fun e he=>hm e (by simp[he])) (ta S e) ?_
    intro i hi
    unfold ta CF at hi
    split at hi
    ·rename_i ai
     subst ai
     rw[uy]at hi
     rcases hi with hi|hi
     ·exact h _ hi
     ·exact .step (hm e (by simp)) (h _ hi)
    ·exact h _ hi
  have:∀ n i,iter (gE E) n (fun j=>decide (j=s)) i=true→l1 E i s:=by
   intro n
   induction n with
   | zero=>intro i hi;simp only[iter,ho]at hi;subst hi;exact .refl _
   | succ n au=>exact key E (fun _ h=>h) _ au
  exact this N i
 ·intro h
  have Lw:∀ n,iter (gE E) n (fun j=>decide (j=s)) s=true:=by
   intro n
   induction n with
   | zero=>simp[iter]
   | succ n au=>exact FB E au
  have aS:=ay2 dm (fun j=>decide (j=s))
  have dx:∀ e∈E,iter (gE E) N (fun j=>decide (j=s)) e.b=true→iter (gE E) N (fun j=>decide (j=s)) e.a=true:=by
   intro e he ab
   have:=ayP E he ab
   rwa[aS]at this
  have key:∀ {i j:Nat},l1 E i j→iter (gE E) N (fun j=>decide (j=s)) j=true→iter (gE E) N (fun j=>decide (j=s)) i=true:=by
   intro i j h
   induction h with
   | refl=>exact fun h=>h
   | step he _ au=>exact fun h=>dx _ he (au h)
  exact key h (Lw N)
theorem l1.lt{E:List j8}{N:Nat}(dm:∀ e∈E,e.a<N∧e.b<N){i j:Nat}(h:l1 E i j)(hi:i<N):j<N:=by
 induction h with
 | refl=>exact hi
 | step he _ au=>exact au (dm _ he).2
section
variable{N:Nat}{E:List j8}(dm:∀ e∈E,e.a<N∧e.b<N∧e.a≠e.b∧1≤e.w){d0:Nat→Int}(bo:∀ i,0≤d0 i)
include dm bo
end
structure CW(e4:Nat→Int)(E:List j8)(N:Nat)(F:Nat→Nat)(D:Nat→Int):Prop where
 KL:∀ e∈E,D e.a≤D e.b+e.w
 top:∀ i,i<N→F i=i→D i=0
 aR:∀ i,i<N→0≤D i
 par:∀ i,i<N→F i≠i→∃ e∈E,e.a=i∧D i=D e.b+e.w
theorem CW.le{e4:Nat→Int}{E:List j8}{N:Nat}{F:Nat→Nat}{D a5:Nat→Int}(dm:∀ e∈E,e.a<N∧e.b<N∧e.a≠e.b∧1≤e.w)(h:CW e4 E N F D)(ai:CW e4 E N F a5):∀(n i:Nat),i<N→a5 i≤n→D i≤a5 i:=by
 intro n
 induction n with
 | zero =>
  intro i hi aw
  by_cases eA:F i=i
  ·rw[h.top i hi eA,ai.top i hi eA];exact Gl _
  ·obtain⟨e,he,ad,ag⟩:=ai.par i hi eA
   have:=ai.aR e.b (dm e he).2.1
   have:=(dm e he).2.2.2
   omega
 | succ n au =>
  intro i hi aw
  by_cases eA:F i=i
  ·rw[h.top i hi eA,ai.top i hi eA];exact Gl _
  ·obtain⟨e,he,ad,ag⟩:=ai.par i hi eA
   have aJ:=(dm e he).2.2.2
   have bL:=au e.b (dm e he).2.1 (by omega)
   have dC:=h.KL e he
   rw[ad]at dC
   omega
theorem CW.eq{e4:Nat→Int}{E:List j8}{N:Nat}{F:Nat→Nat}{D a5:Nat→Int}(dm:∀ e∈E,e.a<N∧e.b<N∧e.a≠e.b∧1≤e.w)(h:CW e4 E N F D)(ai:CW e4 E N F a5)(i:Nat)(hi:i<N):D i=a5 i:=by
 have ad:=h.le dm ai (a5 i).toNat i hi (by omega)
 have ag:=ai.le dm h (D i).toNat i hi (by omega)
 omega
end Go.Proofs.YtogagakgmbkonaaGreat
namespace Go.Proofs.YtogagakgmbkonaaGreat
open Go Go.Abs
def IQ(cut:Nat→Bool)(i:Nat)(l:dK):List j8:=if cut i=true then[]else[⟨l.a.toNat,l.b.toNat,0⟩,⟨l.b.toNat,l.a.toNat,0⟩]
def sA(cut:Nat→Bool):Nat→List dK→List j8
 | _,[]=>[]
 | i,l::ls=>IQ cut i l++sA cut (i+1) ls
def AL(N:Nat)(r:List Bool)(S:Nat→Bool):Prop:=r.length=N∧∀ n,n<N→r[n]? = some (S n)
theorem av8{N:Nat}{cut:Nat→Bool}{i:Nat}{r:List Bool}{S:Nat→Bool}{l:dK}(h:AL N r S)(ae:l.a.toNat<N)(ab:l.b.toNat<N)(iT:l.a.toNat≠l.b.toNat):AL N (yu cut i r l) (gE (IQ cut i l) S):=by
 obtain⟨ad,ag⟩:=h
 have gH:pf r l.a=S l.a.toNat:=by rw[pf,ag _ ae];rfl
 have Bd:pf r l.b=S l.b.toNat:=by rw[pf,ag _ ab];rfl
 unfold yu IQ
 rw[gH,Bd]
 generalize l.a.toNat=A at *
 generalize l.b.toNat=B at *
 cases af:cut i with
 | true=>simp only[vx,vw,fJ,et,cQ];exact⟨ad,ag⟩
 | false =>
  simp only[qT,ur,fJ,et]
  have az:∀ n,gE [⟨A,B,0⟩,⟨B,A,0⟩] S n=if n=A∨n=B then(S A || S B)else S n:=by
   intro n
   show ta (ta S ⟨A,B,0⟩) ⟨B,A,0⟩ n=_
   unfold ta
   by_cases aw:n=B
   ·subst aw
    rw[a6 (.inr rfl),NV]
    simp only[NV]
    rw[NU (fun h=>iT h.symm)]
    cases S A<;>cases S n<;>rfl
   ·rw[NU aw]
    by_cases o2:n=A
    ·subst o2;rw[a6 (.inl rfl),NV]
    ·rw[a2 (fun h=>h.elim o2 aw),NU o2]
  refine⟨?_,fun n aw=>?_⟩
  ·split<;>simp[ad]
  ·rw[az n]
   by_cases aE:(S A != S B)=true
   ·rw[a6 aE]
    have LC:(S A || S B)=true:=by revert aE;cases S A<;>cases S B<;>decide
    by_cases o2:n=B
    ·subst o2;rw[a6 (.inr rfl),l7 (by simp;omega),LC]
    ·rw[iv (fun h=>o2 h.symm)]
     by_cases RL:n=A
     ·subst RL;rw[a6 (.inl rfl),l7 (by omega),LC]
     ·rw[a2 (fun h=>h.elim RL o2),iv (fun h=>RL h.symm)]
      exact ag n aw
   ·rw[a2 aE,ag n aw]
    have heq:S A=S B:=by revert aE;cases S A<;>cases S B<;>decide
    by_cases o2:n=A∨n=B
    ·rw[a6 o2]
     rcases o2 with rfl|rfl
     ·rw[heq];simp
     ·rw[heq];simp
    ·rw[a2 o2]
theorem av6{N:Nat}{cut:Nat→Bool}:∀(ls:List dK) (i:Nat) (r:List Bool) (S:Nat→Bool),(∀ l∈ls,l.a.toNat<N∧l.b.toNat<N∧l.a.toNat≠l.b.toNat)→AL N r S→AL N (va cut i ls r) (gE (sA cut i ls) S):=by
 intro ls
 induction ls with
 | nil=>intro i r S _ h;exact h
 | cons l ls au =>
  intro i r S az h
  have bo:=az l (by simp)
  have ad:=av8 (cut:=cut) (i:=i) h bo.1 bo.2.1 bo.2.2
  have ag:=au (i+1) _ _ (fun m hm=>az m (by simp[hm])) ad
  rw[va,sA,gE,J2]
  exact ag
theorem asf{df:Type}(f:df→df):∀(n:Nat) (s:df),iter f n (f s)=f (iter f n s):=by
 intro n
 induction n with
 | zero=>intro s;rfl
 | succ n au=>intro s;show f (iter f n (f s))=_;rw[au];rfl
theorem av3{N:Nat}{cut:Nat→Bool}{ls:List dK}(az:∀ l∈ls,l.a.toNat<N∧l.b.toNat<N∧l.a.toNat≠l.b.toNat):∀(n:Nat) (r:List Bool) (S:Nat→Bool),AL N r S→AL N (Ct cut ls n r) (iter (gE (sA cut 0 ls)) n S):=by
 intro n
 induction n with
 | zero=>intro r S h;exact h
 | succ n au =>
  intro r S h
  have:=au _ _ (av6 (cut:=cut) ls 0 r S az h)
  rw[Ct]
  rwa[asf]at this
theorem UC{cut:Nat→Bool}{e:j8}:∀(ls:List dK) (i:Nat),e∈sA cut i ls↔∃ j l,ls[j]? = some l∧cut (i+j)=false∧(e=⟨l.a.toNat,l.b.toNat,0⟩∨e=⟨l.b.toNat,l.a.toNat,0⟩):=by
 intro ls
 induction ls with
 | nil=>intro i;simp[sA]
 | cons l ls au =>
  intro i
  rw[sA,hp,au]
  constructor
  ·rintro(h|⟨j,m,ad,ag,aJ⟩)
   ·unfold IQ at h
    split at h
    ·cases h
    ·rename_i af
     refine⟨0,l,rfl,by simpa using af,by simpa using h⟩
   ·exact⟨j+1,m,by simpa using ad,by rw[← ag];congr 1;omega,aJ⟩
  ·rintro⟨j,m,ad,ag,aJ⟩
   cases j with
   | zero =>
    left
    simp only[lG,Option.some.injEq]at ad
    subst ad
    have xv:cut i=false:=ag
    rw[IQ,a2 (by rw[xv];simp)]
    simpa using aJ
   | succ j=>exact .inr ⟨j,m,by simpa using ad,by rw[← ag];congr 1;omega,aJ⟩
theorem asv(cut:Nat→Bool)(ls:List dK):∀ e∈sA cut 0 ls,(⟨e.b,e.a,e.w⟩:j8)∈sA cut 0 ls:=by
 intro e he
 rw[UC]at he ⊢
 obtain⟨j,l,ad,ag,aJ⟩:=he
 refine⟨j,l,ad,ag,?_⟩
 rcases aJ with rfl|rfl
 ·exact .inr rfl
 ·exact .inl rfl
theorem awU{t:bR}{s:Nat}{cut:Nat→Bool}(az:∀ l∈t.cd,Be t l)(J:s<t.nodes.toNat){n:Nat}(aw:n<t.nodes.toNat):(tU t s cut)[n]? = some true↔l1 (sA cut 0 t.cd) n s:=by
 have LK:∀ l∈t.cd,l.a.toNat<t.nodes.toNat∧l.b.toNat<t.nodes.toNat∧l.a.toNat≠l.b.toNat:=fun l ao=>by
  obtain⟨⟨ad,ag⟩,⟨aJ,bL⟩,dC⟩:=az l ao
  omega
 have bo:AL t.nodes.toNat ((List.replicate t.nodes.toNat false).set s true) (fun j=>decide (j=s)):=by
  refine⟨by simp,fun n aw=>?_⟩
  by_cases h:n=s
  ·subst h;rw[l7 (by simpa using aw)];simp
  ·rw[iv (fun e=>h e.symm),s7,a6 aw];simp[h]
 have ad:=(av3 (cut:=cut) LK t.nodes.toNat _ _ bo).2 n aw
 rw[tU,ad,Option.some.injEq]
 refine awS (fun e he=>?_) s n
 rw[UC]at he
 obtain⟨j,l,a3,a7,cz⟩:=he
 have:=LK l (gp a3)
 rcases cz with rfl|rfl
 ·exact this.1
 ·exact this.2.1
end Go.Proofs.YtogagakgmbkonaaGreat
namespace Go.Proofs.YtogagakgmbkonaaGreat
open Go Go.Abs
def jJ(n:Int)(L:List dK):Int:=L.foldr (fun l s=>s+(if l.a=n then 1 else 0)+(if l.b=n then 1 else 0)) 0
theorem ajK(n:Int)(L:List dK)(l:dK):jJ n (L++[l])=jJ n L+(if l.a=n then 1 else 0)+(if l.b=n then 1 else 0):=by
 induction L with
 | nil=>simp[jJ]
 | cons x L au =>
  simp only[jJ,dS,O6]at au ⊢
  rw[au]
  omega
theorem XY(n:Int)(L:List dK)(d:jW)(k:Nat)(a b:Int):jJ n (L++[fh d k a b])=jJ n L+(if a=n then 1 else 0)+(if b=n then 1 else 0):=ajK n L _
theorem ajL{n:Int}{L:List dK}(h:∀ l∈L,l.a≠n∧l.b≠n):jJ n L=0:=by
 induction L with
 | nil=>rfl
 | cons x L au =>
  have bo:=h x (by simp)
  have:=au (fun l ao=>h l (by simp[ao]))
  simp only[jJ,O6]at this ⊢
  rw[this,a2 bo.1,a2 bo.2];rfl
theorem ajI{N:Nat}:∀(L:List dK) (m:List Int),(∀ l∈L,(0≤l.a∧l.a.toNat<N)∧(0≤l.b∧l.b.toNat<N)∧l.a≠l.b)→m.length=N→∀ n:Nat,n<N→iI (L.foldl tg m) (n:Nat)=iI m (n:Nat)+jJ (n:Nat) L:=by
 intro L
 induction L with
 | nil=>intro m _ _ n _;simp[jJ]
 | cons l L au =>
  intro m az hm n aw
  obtain⟨⟨lH,cJ⟩,⟨j0,cN⟩,iT⟩:=az l (by simp)
  rw[p8,au (tg m l) (fun x U=>az x (by simp[U])) (by simp[tg,hm]) n aw]
  have mn:iI (tg m l) (n:Nat)=iI m (n:Nat)+(if l.a=(n:Nat)then 1 else 0)+(if l.b=(n:Nat)then 1 else 0):=by
   have eo:l.a.toNat≠l.b.toNat:=fun h=>iT (by omega)
   simp only[tg,iI,ld]
   by_cases ab:l.b.toNat=n
   ·have cS:l.b=(n:Nat):=by omega
    have nU:¬ l.a=(n:Nat):=by omega
    subst ab
    rw[l7 (by simp;omega),a6 cS,a2 nU,iv eo]
    simp
   ·have cS:¬ l.b=(n:Nat):=by omega
    rw[iv ab,a2 cS]
    by_cases ae:l.a.toNat=n
    ·have nU:l.a=(n:Nat):=by omega
     subst ae
     rw[l7 (by omega),a6 nU]
     simp
    ·have nU:¬ l.a=(n:Nat):=by omega
     rw[iv ae,a2 nU]
     simp
  rw[mn]
  simp only[jJ,O6]
  omega
section
variable{d:jW}(aF:vF d)
include aF
omit aF in
theorem XW(n:Nat):(cu d)[n]?.getD false=decide (aV d≤n∧n<aV d+cH d):=by
 by_cases h:n<aV d+cH d
 ·simp[cu,h]
 ·simp[cu,h]
def nn(d:jW)(l:dK):Prop:=(0≤l.a∧l.a<((aV d+cH d:Nat):Int))∧(0≤l.b∧l.b<((aV d+cH d:Nat):Int))∧l.a≠l.b∧(l.a<(aV d:Nat)∨l.b<(aV d:Nat))∧(1≤l.aK∧l.aK≤1000)∧0≤l.kE∧l.kE≤10000
theorem UP(L:List dK)(l:dK):sD ⟨((aV d+cH d:Nat):Int),cu d,L⟩ l=true↔nn d l:=by
 simp only[sD,pV,Cd,yb,tN,h9,XW,fe,ho,pC,Bool.and_eq_false_iff,oi,nn]
 constructor
 ·rintro⟨⟨ad,ag,aJ⟩,bL,dC⟩
  exact⟨ad,ag,aJ,by omega,dC⟩
 ·rintro⟨ad,ag,aJ,bL,dC⟩
  refine⟨⟨ad,ag,aJ⟩,?_,dC⟩
  omega
theorem atF(n:Nat)(a b:Int):(1≤(fh d n a b).aK∧(fh d n a b).aK≤1000)∧0≤(fh d n a b).kE∧(fh d n a b).kE≤10000:=by
 have ad:=rG aF.lW n
 have ag:=rG aF.nP n
 simp only[fh]
 omega
structure C0(d:jW)(L:List dK):Prop where
 v:∀ l∈L,nn d l
 j:L.Pairwise (fun m l=>we l m=false)
 n:L.length≤24
theorem We{L:List dK}(h:C0 d L)(a b:Int):(en d L a b=L∨en d L a b=L++[fh d L.length a b])∧C0 d (en d L a b):=by
 unfold en vm
 by_cases ad:L.length=24∨sD ⟨((aV d+cH d:Nat):Int),cu d,L⟩ (fh d L.length a b)=false
 ·rw[a6 ad];exact⟨.inl rfl,h⟩
 ·rw[a2 ad]
  by_cases ag:sy L a b=true
  ·rw[a6 ag];exact⟨.inl rfl,h⟩
  ·rw[a2 ag]
   have aJ:nn d (fh d L.length a b):=by
    rw[← UP aF L]
    cases aE:sD ⟨((aV d+cH d:Nat):Int),cu d,L⟩ (fh d L.length a b)with
    | true=>rfl
    | false=>exact absurd (.inr aE) ad
   have bL:L.length≠24:=fun e=>ad (.inl e)
   have dC:=h.n
   refine⟨.inr rfl,fun l ao=>?_,?_,by simp;omega⟩
   ·rcases hp.1 ao with ao|ao
    ·exact h.v l ao
    ·rw[kA]at ao;rw[ao];exact aJ
   ·rw[F5]
    refine⟨h.j,J5 _ _,fun m hm l ao=>?_⟩
    rw[kA]at ao
    rw[ao]
    refine bA (fun aE=>ag ?_)
    simp only[fh]at aE
    simp only[sy,Pm,ho]
    exact⟨m,hm,by omega⟩
theorem afp{L:List dK}(h:L.length<24){a b:Int}(az:(0≤a∧a<((aV d+cH d:Nat):Int))∧(0≤b∧b<((aV d+cH d:Nat):Int))∧a≠b∧(a<(aV d:Nat)∨b<(aV d:Nat)))(aU:∀ l∈L,¬ (l.a=a∧l.b=b∨l.a=b∧l.b=a)):en d L a b=L++[fh d L.length a b]:=by
 unfold en vm
 have ad:sD ⟨((aV d+cH d:Nat):Int),cu d,L⟩ (fh d L.length a b)=true:=by
  rw[UP aF]
  exact⟨az.1,az.2.1,az.2.2.1,az.2.2.2,atF aF _ _ _⟩
 have ag:¬ sy L a b=true:=by
  intro aE
  simp only[sy,Pm,ho]at aE
  obtain⟨l,ao,aE⟩:=aE
  exact aU l ao aE
 rw[a2 (by rintro(e|e);omega;rw[ad]at e;cases e),a2 ag]
theorem ajB:C0 d (om d)∧(om d).length=aV d-1∧(∀ l∈om d,l.a<(aV d:Nat)∧l.b<(aV d:Nat))∧∀ i,i<aV d-1→∃ l∈om d,l.a=(i:Nat)∧l.b=((i+1:Nat):Int):=by
 obtain⟨cN,db,eG⟩:=tc aF
 obtain⟨s1,s2,a8⟩:=tV aF
 have key:∀ k,k≤aV d-1→C0 d ((List.range k).foldl (fun L i=>en d L (i:Nat) ((i+1:Nat):Int)) [])∧((List.range k).foldl (fun L i=>en d L (i:Nat) ((i+1:Nat):Int)) []).length=k ∧
   (∀ l∈(List.range k).foldl (fun L i=>en d L (i:Nat) ((i+1:Nat):Int)) [],l.b=l.a+1∧0≤l.a∧l.a<(k:Nat))∧∀ i,i<k→∃ l∈(List.range k).foldl (fun L i=>en d L (i:Nat) ((i+1:Nat):Int)) [],l.a=(i:Nat)∧l.b=((i+1:Nat):Int):=by
  intro k
  induction k with
  | zero=>intro _;exact⟨⟨(fun l ao=>(by cases ao)),List.Pairwise.nil,uv _⟩,rfl,(fun l ao=>(by cases ao)),fun i hi=>by omega⟩
  | succ k au =>
   intro an
   obtain⟨i1,i2,i3,i4⟩:=au (by omega)
   rw[y4,J2,p8,Kh]
   generalize (List.range k).foldl (fun L i=>en d L (i:Nat) ((i+1:Nat):Int)) []=L at *
   have mU:=afp aF (L:=L) (by omega) (a:=(k:Nat)) (b:=((k+1:Nat):Int)) ⟨by omega,by omega,by omega,by omega⟩ (fun l ao=>by have:=i3 l ao;omega)
   have J:=(We aF i1 (k:Nat) ((k+1:Nat):Int)).2
   rw[mU]at J ⊢
   refine⟨J,by simp[i2],fun l ao=>?_,fun i hi=>?_⟩
   ·rcases hp.1 ao with ao|ao
    ·have:=i3 l ao;omega
    ·rw[kA]at ao;rw[ao];simp only[fh];omega
   ·by_cases xJ:i=k
    ·subst xJ;exact⟨_,y6 _ (kA.2 rfl),rfl,rfl⟩
    ·obtain⟨l,ad,ag⟩:=i4 i (by omega)
     exact⟨l,AN _ ad,ag⟩
 obtain⟨bB,aO,ed,gb⟩:=key (aV d-1) (bP _)
 exact⟨bB,aO,fun l ao=>by have:=ed l ao;omega,gb⟩
structure vt(d:jW)(L:List dK):Prop where
 s:C0 d L
 chain:∀ i,i<aV d-1→∃ l∈L,l.a=(i:Nat)∧l.b=((i+1:Nat):Int)
 home:∀ s,s<cH d→∃ l∈L,l.a=((aV d+s:Nat):Int)∧(0≤l.b∧l.b<(aV d:Nat))
theorem ajC:vt d (oU d)∧∀ s,s<cH d→jJ ((aV d+s:Nat):Int) (oU d)=1:=by
 obtain⟨cN,db,eG⟩:=tc aF
 obtain⟨s1,s2,a8⟩:=tV aF
 obtain⟨c1,c2,dh,eP⟩:=ajB aF
 have key:∀ k,k≤cH d→C0 d ((List.range k).foldl (fun L s=>en d L ((aV d+s:Nat):Int) (bq d.homes (2*s) % (aV d:Nat))) (om d))∧((List.range k).foldl (fun L s=>en d L ((aV d+s:Nat):Int) (bq d.homes (2*s) % (aV d:Nat))) (om d)).length=aV d-1+k ∧
   (∀ l∈(List.range k).foldl (fun L s=>en d L ((aV d+s:Nat):Int) (bq d.homes (2*s) % (aV d:Nat))) (om d),l.a<((aV d+k:Nat):Int)∧l.b<(aV d:Nat)) ∧
   (∀ i,i<aV d-1→∃ l∈(List.range k).foldl (fun L s=>en d L ((aV d+s:Nat):Int) (bq d.homes (2*s) % (aV d:Nat))) (om d),l.a=(i:Nat)∧l.b=((i+1:Nat):Int)) ∧
   (∀ s,s<k→∃ l∈(List.range k).foldl (fun L s=>en d L ((aV d+s:Nat):Int) (bq d.homes (2*s) % (aV d:Nat))) (om d),l.a=((aV d+s:Nat):Int)∧(0≤l.b∧l.b<(aV d:Nat))) ∧
   ∀ s,s<k→jJ ((aV d+s:Nat):Int) ((List.range k).foldl (fun L s=>en d L ((aV d+s:Nat):Int) (bq d.homes (2*s) % (aV d:Nat))) (om d))=1:=by
  intro k
  induction k with
  | zero=>intro _;exact⟨c1,c2,fun l ao=>by have:=dh l ao;omega,eP,fun s J=>by omega,fun s J=>by omega⟩
  | succ k au =>
   intro an
   obtain⟨i1,i2,i3,i4,i5,i6⟩:=au (by omega)
   rw[y4,J2,p8,Kh]
   generalize (List.range k).foldl (fun L s=>en d L ((aV d+s:Nat):Int) (bq d.homes (2*s) % (aV d:Nat))) (om d)=L at *
   have ql:=nG (bq d.homes (2*k)) (b:=((aV d:Nat):Int)) (by omega)
   have h5:=l5 (bq d.homes (2*k)) (b:=((aV d:Nat):Int)) (by omega)
   generalize bq d.homes (2*k) % ((aV d:Nat):Int)=V at *
   have mU:=afp aF (L:=L) (by omega) (a:=((aV d+k:Nat):Int)) (b:=V) ⟨by omega,by omega,by omega,by omega⟩ (fun l ao=>by have:=i3 l ao;omega)
   have J:=(We aF i1 ((aV d+k:Nat):Int) V).2
   rw[mU]at J ⊢
   refine⟨J,by simp[i2];omega,fun l ao=>?_,fun i hi=>?_,fun s J=>?_,fun s J=>?_⟩
   ·rcases hp.1 ao with ao|ao
    ·have:=i3 l ao;omega
    ·rw[kA]at ao;rw[ao];simp only[fh];omega
   ·obtain⟨l,ad,ag⟩:=i4 i hi
    exact⟨l,AN _ ad,ag⟩
   ·by_cases HD:s=k
    ·subst HD;exact⟨_,y6 _ (kA.2 rfl),rfl,ql,h5⟩
    ·obtain⟨l,ad,ag⟩:=i5 s (by omega)
     exact⟨l,AN _ ad,ag⟩
   ·rw[XY]
    by_cases HD:s=k
    ·subst HD
     rw[ajL (fun l ao=>by have:=i3 l ao;omega),a6 rfl,a2 (by omega)];rfl
    ·rw[i6 s (by omega),a2 (by omega),a2 (by omega)];rfl
 obtain⟨bB,aO,ed,gb,lT,qv⟩:=key (cH d) (bP _)
 exact⟨⟨bB,gb,lT⟩,qv⟩
theorem UQ{L:List dK}(h:vt d L)(a b:Int):vt d (en d L a b)∧∀ n,jJ n L≤jJ n (en d L a b)∧jJ n (en d L a b)≤jJ n L+(if a=n then 1 else 0)+(if b=n then 1 else 0):=by
 obtain⟨ad,ag⟩:=We aF h.s a b
 rcases ad with e|e
 ·rw[e]
  refine⟨h,fun n=>⟨Gl _,?_⟩⟩
  split<;>split<;>omega
 ·rw[e]at ag ⊢
  refine⟨⟨ag,fun i hi=>?_,fun s J=>?_⟩,fun n=>?_⟩
  ·obtain⟨l,ad,aJ⟩:=h.chain i hi
   exact⟨l,AN _ ad,aJ⟩
  ·obtain⟨l,ad,aJ⟩:=h.home s J
   exact⟨l,AN _ ad,aJ⟩
  ·rw[XY]
   constructor
   ·split<;>split<;>omega
   ·omega
theorem ajD:vt d (nf d)∧∀ s,s<cH d→1≤jJ ((aV d+s:Nat):Int) (nf d)∧jJ ((aV d+s:Nat):Int) (nf d)≤2:=by
 obtain⟨cN,db,eG⟩:=tc aF
 obtain⟨s1,s2,a8⟩:=tV aF
 obtain⟨c1,c2⟩:=ajC aF
 have aJ:vt d (jI d)∧∀ s,s<cH d→jJ ((aV d+s:Nat):Int) (jI d)=1:=by
  unfold jI
  split
  ·obtain⟨i1,i2⟩:=UQ aF c1 ((aV d-1:Nat):Int) 0
   refine⟨i1,fun s J=>?_⟩
   have bL:=i2 ((aV d+s:Nat):Int)
   rw[c2 s J,a2 (by omega),a2 (by omega)]at bL
   omega
  ·exact⟨c1,c2⟩
 have bL:∀ k,k≤cH d→vt d ((List.range k).foldl (fun L s=>if 0<bq d.homes (2*s+1) % 3 then en d L ((aV d+s:Nat):Int) (bq d.homes (2*s+1) % (aV d:Nat))else L) (jI d))∧∀ s,s<cH d→1≤jJ ((aV d+s:Nat):Int) ((List.range k).foldl (fun L s=>if 0<bq d.homes (2*s+1) % 3 then en d L ((aV d+s:Nat):Int) (bq d.homes (2*s+1) % (aV d:Nat))else L) (jI d))∧jJ ((aV d+s:Nat):Int) ((List.range k).foldl (fun L s=>if 0<bq d.homes (2*s+1) % 3 then en d L ((aV d+s:Nat):Int) (bq d.homes (2*s+1) % (aV d:Nat))else L) (jI d))≤(if s<k then 2 else 1):=by
  intro k
  induction k with
  | zero=>intro _;exact⟨aJ.1,fun s J=>by have:=aJ.2 s J;rw[a2 (by omega)];simp only[List.range_zero,Kh];omega⟩
  | succ k au =>
   intro an
   obtain⟨i1,i2⟩:=au (by omega)
   rw[y4,J2,p8,Kh]
   generalize (List.range k).foldl (fun L s=>if 0<bq d.homes (2*s+1) % 3 then en d L ((aV d+s:Nat):Int) (bq d.homes (2*s+1) % (aV d:Nat))else L) (jI d)=L at *
   have h5:=l5 (bq d.homes (2*k+1)) (b:=((aV d:Nat):Int)) (by omega)
   generalize bq d.homes (2*k+1) % ((aV d:Nat):Int)=V at *
   by_cases aE:0<bq d.homes (2*k+1) % 3
   ·rw[a6 aE]
    obtain⟨uY,ry⟩:=UQ aF i1 ((aV d+k:Nat):Int) V
    refine⟨uY,fun s J=>?_⟩
    have dC:=ry ((aV d+s:Nat):Int)
    have fQ:=i2 s J
    rw[a2 (show ¬ V=((aV d+s:Nat):Int) by omega)]at dC
    by_cases HD:s=k
    ·subst HD
     rw[a6 rfl]at dC
     rw[a2 (by omega)]at fQ
     rw[a6 (by omega)]
     omega
    ·rw[a2 (by omega)]at dC
     by_cases aB:s<k
     ·rw[a6 aB]at fQ;rw[a6 (by omega)];omega
     ·rw[a2 aB]at fQ;rw[a2 (by omega)];omega
   ·rw[a2 aE]
    refine⟨i1,fun s J=>?_⟩
    have fQ:=i2 s J
    by_cases aB:s<k
    ·rw[a6 aB]at fQ;rw[a6 (by omega)];omega
    ·rw[a2 aB]at fQ
     split<;>omega
 have dC:∀(l:List Nat),vt d (l.foldl (fun L i=>en d L (bq d.b1 (2*i) % (aV d:Nat)) (bq d.b1 (2*i+1) % (aV d:Nat))) (oV d))∧∀ s,s<cH d→jJ ((aV d+s:Nat):Int) (l.foldl (fun L i=>en d L (bq d.b1 (2*i) % (aV d:Nat)) (bq d.b1 (2*i+1) % (aV d:Nat))) (oV d))=jJ ((aV d+s:Nat):Int) (oV d):=by
  have al4:vt d (oV d):=(bL (cH d) (bP _)).1
  intro l
  suffices ay:∀(l:List Nat) (L:List dK),vt d L→vt d (l.foldl (fun L i=>en d L (bq d.b1 (2*i) % (aV d:Nat)) (bq d.b1 (2*i+1) % (aV d:Nat))) L)∧∀ s,s<cH d→jJ ((aV d+s:Nat):Int) (l.foldl (fun L i=>en d L (bq d.b1 (2*i) % (aV d:Nat)) (bq d.b1 (2*i+1) % (aV d:Nat))) L)=jJ ((aV d+s:Nat):Int) L from ay l _ al4
  intro l
  induction l with
  | nil=>intro L h;exact⟨h,fun _ _=>rfl⟩
  | cons i l au =>
   intro L h
   rw[p8]
   have h5:=l5 (bq d.b1 (2*i)) (b:=((aV d:Nat):Int)) (by omega)
   have iF:=l5 (bq d.b1 (2*i+1)) (b:=((aV d:Nat):Int)) (by omega)
   obtain⟨uY,ry⟩:=UQ aF h (bq d.b1 (2*i) % (aV d:Nat)) (bq d.b1 (2*i+1) % (aV d:Nat))
   obtain⟨a3,a7⟩:=au _ uY
   refine⟨a3,fun s J=>?_⟩
   rw[a7 s J]
   have fQ:=ry ((aV d+s:Nat):Int)
   rw[a2 (by omega),a2 (by omega)]at fQ
   omega
 obtain⟨a3,a7⟩:=dC (List.range (min 6 (d.b1.length / 2)))
 refine⟨a3,fun s J=>?_⟩
 have aT:jJ ((aV d+s:Nat):Int) (nf d)=jJ ((aV d+s:Nat):Int) (oV d):=a7 s J
 have aW:=(bL (cH d) (bP _)).2 s J
 rw[a6 J]at aW
 rw[aT]
 exact aW
theorem ajE:g0 (kU d)=true:=by
 obtain⟨cN,db,eG⟩:=tc aF
 obtain⟨s1,s2,a8⟩:=tV aF
 obtain⟨ad,ag⟩:=ajD aF
 have dn:CH (kU d):=by
  refine⟨?_,?_,ad.s.n⟩
  ·show 2≤((aV d+cH d:Nat):Int)∧((aV d+cH d:Nat):Int)≤12
   omega
  ·show((cu d).length:Int)=((aV d+cH d:Nat):Int)
   rw[KF]
 have aot:yD (kU d)=true:=by
  rw[yD,jY]
  intro i hi
  have hi:i<(nf d).length:=vv.1 hi
  have ao:gw (kU d) i=(nf d)[i]:=by simp[gw,kU,hi]
  have az:=ad.s.v _ (oP hi)
  rw[ao]
  have al:=(UP aF (nf d) (nf d)[i]).2 az
  simp only[sD,fe]at al
  simp only[sC,fe]
  refine⟨al.1,al.2.1,?_,al.2.2⟩
  rw[IY,jY]
  intro m hm
  obtain⟨j,aU,rfl⟩:=List.mem_iff_getElem.1 hm
  simp only[kU,r4]at aU
  have av:=OP.1 ad.s.j j i (by omega) hi (by omega)
  have e:((kU d).cd.take i)[j]=(nf d)[j]:=by simp[kU]
  rw[e,av];rfl
 have am4:∀ l∈(kU d).cd,Be (kU d) l:=fun l ao=>by
  have:=ad.s.v l ao
  exact⟨this.1,this.2.1,this.2.2.1⟩
 have Rh:DB (kU d)=true:=by
  rw[DB,jY]
  intro n aw
  have aw:n<aV d+cH d:=by rw[← KF];exact vv.1 aw
  have aS:h9 (kU d) n=decide (aV d≤n∧n<aV d+cH d):=XW n
  rw[aS]
  by_cases aE:aV d≤n
  ·have sn:iI (pG (kU d)) (n:Nat)=jJ (n:Nat) (nf d):=by
    have aJ:=ajI (N:=aV d+cH d) (nf d) (List.replicate (aV d+cH d) 0) (fun l ao=>by have:=ad.s.v l ao;unfold nn at this;omega) (by simp) n aw
    have bL:iI (List.replicate (aV d+cH d) (0:Int)) (n:Nat)=0:=by
     simp only[iI,ld,s7]
     split<;>rfl
    rw[bL,Int.zero_add]at aJ
    exact aJ
   have dC:=ag (n-aV d) (by omega)
   have e:((aV d+(n-aV d):Nat):Int)=(n:Nat):=by omega
   rw[e]at dC
   rw[sn,bY dC];simp
  ·have:decide (aV d≤n∧n<aV d+cH d)=false:=bA (fun h=>aE h.1)
   rw[this];rfl
 have mT:∀ l∈nf d,(⟨l.a.toNat,l.b.toNat,0⟩:j8)∈sA (fun _=>false) 0 (kU d).cd:=fun l ao=>by
  rw[UC]
  obtain⟨j,aU⟩:=w6.1 ao
  exact⟨j,l,aU,rfl,.inl rfl⟩
 have Hi:∀ n,n<aV d→l1 (sA (fun _=>false) 0 (kU d).cd) n 0:=by
  intro n
  induction n with
  | zero=>intro _;exact .refl 0
  | succ n au =>
   intro aw
   obtain⟨l,ao,aT,aW⟩:=ad.chain n (by omega)
   have aJ:=mT l ao
   rw[aT,aW,ld,ld]at aJ
   have bL:=asv _ _ _ aJ
   exact .step (e:=⟨n+1,n,0⟩) bL (au (by omega))
 have ie:∀ n,n<aV d+cH d→l1 (sA (fun _=>false) 0 (kU d).cd) n 0:=by
  intro n aw
  by_cases aE:n<aV d
  ·exact Hi n aE
  ·obtain⟨l,ao,aT,aW⟩:=ad.home (n-aV d) (by omega)
   have aJ:=mT l ao
   rw[aT,ld,show aV d+(n-aV d)=n by omega]at aJ
   have dC:=Hi l.b.toNat (by omega)
   exact .step (e:=⟨n,l.b.toNat,0⟩) aJ dC
 have aon:¬ false∈tU (kU d) 0 (fun _=>false):=by
  intro aI
  obtain⟨n,aw⟩:=w6.1 aI
  have hlen:n<(tU (kU d) 0 (fun _=>false)).length:=(cD.1 aw).1
  rw[VB]at hlen
  have bG:(kU d).nodes.toNat=aV d+cH d:=by show((aV d+cH d:Nat):Int).toNat=_;omega
  have:=(awU am4 (show 0<(kU d).nodes.toNat by omega) hlen).2 (ie n (by omega))
  rw[aw]at this
  cases this
 simp only[g0,fe,pC,oi]
 exact⟨bY dn,aot,Rh,aon⟩
end
end Go.Proofs.YtogagakgmbkonaaGreat
namespace Go.Proofs.YtogagakgmbkonaaGreat
open Go Go.Abs
theorem XU(d:jW):(om d).length≤24:=Qk (fun L a h=>wR h) _ _ (uv _)
theorem PW(d:jW):(oU d).length≤24:=Qk (fun L a h=>wR h) _ _ (XU d)
theorem PX(d:jW):(jI d).length≤24:=by
 unfold jI
 split
 ·exact wR (PW d)
 ·exact PW d
theorem XV(d:jW):(oV d).length≤24:=Qk (fun L a h=>by
 split
 ·exact wR h
 ·exact h) _ _ (PX d)
section
variable(c1 c2 dh eP:Bool)(d:jW)(aF:vF d)
include aF
theorem Ei:((cu d).length:Int)=((aV d+cH d:Nat):Int):=by rw[KF]
theorem azN(bn aR:Nat)(aw:100<aR)(R:cW→aM→aj→Prop)(e:aM)(he:fw c1 c2 dh eP d e∧e 4=.t (I (cH d:Nat))∧e 8=.t (I 0))
  (bk:∀ e,fw c1 c2 dh eP d e∧e 4=.t (I (cH d:Nat))→R (.exit 4) e (e8 ((aV d+cH d:Nat):Int) (cu d) (oU d) (cu d).length (oU d).length 1)) :
  gP 4 (some [1,2,3,4,5,8]) (c6 Tryz.prog pol (a0 Tryz.prog pol) (inl Tryz.prog pol (a0 Tryz.prog pol) aR (bn+1)) aR 5 TU) R aR e (e8 ((aV d+cH d:Nat):Int) (cu d) (om d) (cu d).length (om d).length 1):=by
 obtain⟨cN,db,eG⟩:=tc aF
 obtain⟨s1,s2,a8⟩:=tV aF
 have aS:=Ei d aF
 refine wj (cH d) (step:=fun s (L:List dK)=>.go (en d L ((aV d+s:Nat):Int) (bq d.homes (2*s) % (aV d:Nat)))) (fin:=id)
  (St:=fun i L e h=>(fw c1 c2 dh eP d e∧e 4=.t (I (cH d:Nat))∧e 8=.t (I (i:Nat)))∧L.length≤24∧h=e8 ((aV d+cH d:Nat):Int) (cu d) L (cu d).length L.length 1)
  (Ex:=fun L x e h=>(fw c1 c2 dh eP d e∧e 4=.t (I (cH d:Nat)))∧x=.exit 4∧h=e8 ((aV d+cH d:Nat):Int) (cu d) L (cu d).length L.length 1) (s:=om d) (by omega) ?_ ?_ (by omega) ?_ ?_
 ·intro i L e h Y R hi aB hw ⟨⟨⟨aT,aW,bw,bZ⟩,cB,DC⟩,ao,aY⟩ an
  subst aY
  simp only[g6]at an
  have v1:IntKind.i64.wrap (((aV d:Nat):Int)+(i:Nat))=((aV d+i:Nat):Int):=by rw[wrap_i64 (by omega) (by omega)];omega
  have v2:IntKind.i64.wrap (2*((i:Nat):Int))=((2*i:Nat):Int):=by rw[wrap_i64 (by omega) (by omega)];omega
  have bB:=Cq c2 d.homes (2*i) aF.homes
  have ab:=rG aF.homes (2*i)
  have t1:(bq d.homes (2*i)).tmod (aV d:Nat)=bq d.homes (2*i) % (aV d:Nat):=jZ ab.1
  have ql:=nG (bq d.homes (2*i)) (b:=((aV d:Nat):Int)) (by omega)
  have h5:=l5 (bq d.homes (2*i)) (b:=((aV d:Nat):Int)) (by omega)
  have iZ:IntKind.i64.wrap (bq d.homes (2*i) % (aV d:Nat))=bq d.homes (2*i) % (aV d:Nat):=wrap_i64 (by omega) (by omega)
  have iV:¬ (((aV d:Nat):Int)=0):=by omega
  have ey:=@JH c1 c2 dh eP d aF ((aV d+cH d:Nat):Int) (cu d) L aS ao (by omega) 1 (bP _) ((aV d+i:Nat):Int) (bq d.homes (2*i) % (aV d:Nat)) bn aR aw
  have eC:(en d L ((aV d+i:Nat):Int) (bq d.homes (2*i) % (aV d:Nat))).length≤24:=wR ao
  change ∀ Q:ah→aj→Prop,(∀ gD hL hk l,hL≤1→Q (.agg (hT _ (cu d).length (en d L ((aV d+i:Nat):Int) (bq d.homes (2*i) % (aV d:Nat))).length)) (e8 _ (cu d) (en d L ((aV d+i:Nat):Int) (bq d.homes (2*i) % (aV d:Nat))) (cu d).length L.length 1++kz _ (cu d).length gD hL hk l))→_ at ey
  generalize en d L ((aV d+i:Nat):Int) (bq d.homes (2*i) % (aV d:Nat))=FQ at *
  generalize bq d.homes (2*i)=V at *
  simp only[e8,kz,th,dS,ea]at ey an ⊢
  (repeat' first|simp only[ab1,ME,go_sem,aT,aW,bw,cB,bZ,DC,aB,hw,v1,v2,iZ,bB,t1,iV]|with_reducible first|refine aZ fun _=>?_|refine a1 ?_|fail)
  with_reducible refine ey _ ?_
  intro gD hL hk l vT
  (repeat' first|simp only[dS,ea,go_sem,aT,aW,bw,cB,bZ,DC,hw,zs]|with_reducible first|refine aZ fun _=>?_|refine a1 ?_|fail)
  all_goals(refine an _ _ ⟨?_,eC,?_⟩<;>simp only[go_sem,fw,aT,aW,bw,cB,bZ,DC,hw])
 ·intro L e h Y R aB ⟨⟨⟨aT,aW,bw,bZ⟩,cB,DC⟩,ao,aY⟩ an
  subst aY
  simp only[e8]at an ⊢
  simp only[ab1,ME,go_sem,aT,aW,bw,cB,bZ,DC,aB]
  all_goals(refine an _ _ _ ⟨?_,rfl,rfl⟩;simp only[go_sem,fw,aT,aW,bw,cB,bZ,DC])
 ·exact⟨he,XU d,rfl⟩
 ·intro x e h ⟨ad,ag,aJ⟩
  rw[DH (fun s L=>en d L ((aV d+s:Nat):Int) (bq d.homes (2*s) % (aV d:Nat))),← sZ]at aJ
  subst ag aJ
  exact bk _ ad
theorem aeZ(bn aR:Nat)(aw:100<aR)(R:cW→aM→aj→Prop)(e:aM)(he:fw c1 c2 dh eP d e∧e 4=.t (I (cH d:Nat))∧e 9=.t (I 0))
  (bk:∀ e,fw c1 c2 dh eP d e→R (.exit 6) e (e8 ((aV d+cH d:Nat):Int) (cu d) (oV d) (cu d).length (oV d).length 1)) :
  gP 4 (some [1,2,3,4,5,9]) (c6 Tryz.prog pol (a0 Tryz.prog pol) (inl Tryz.prog pol (a0 Tryz.prog pol) aR (bn+1)) aR 5 MF) R aR e (e8 ((aV d+cH d:Nat):Int) (cu d) (jI d) (cu d).length (jI d).length 1):=by
 obtain⟨cN,db,eG⟩:=tc aF
 obtain⟨s1,s2,a8⟩:=tV aF
 have aS:=Ei d aF
 refine wj (cH d) (step:=fun s (L:List dK)=>.go (if 0<bq d.homes (2*s+1) % 3 then en d L ((aV d+s:Nat):Int) (bq d.homes (2*s+1) % (aV d:Nat))else L)) (fin:=id)
  (St:=fun i L e h=>(fw c1 c2 dh eP d e∧e 4=.t (I (cH d:Nat))∧e 9=.t (I (i:Nat)))∧L.length≤24∧h=e8 ((aV d+cH d:Nat):Int) (cu d) L (cu d).length L.length 1)
  (Ex:=fun L x e h=>(fw c1 c2 dh eP d e)∧x=.exit 6∧h=e8 ((aV d+cH d:Nat):Int) (cu d) L (cu d).length L.length 1) (s:=jI d) (by omega) ?_ ?_ (by omega) ?_ ?_
 ·intro i L e h Y R hi aB hw ⟨⟨⟨aT,aW,bw,bZ⟩,cB,mc⟩,ao,aY⟩ an
  subst aY
  simp only[g6]at an
  have v1:IntKind.i64.wrap (((aV d:Nat):Int)+(i:Nat))=((aV d+i:Nat):Int):=by rw[wrap_i64 (by omega) (by omega)];omega
  have v2:IntKind.i64.wrap (2*((i:Nat):Int))=((2*i:Nat):Int):=by rw[wrap_i64 (by omega) (by omega)];omega
  have v4:IntKind.i64.wrap (((2*i:Nat):Int)+1)=((2*i+1:Nat):Int):=by rw[wrap_i64 (by omega) (by omega)];omega
  have bB:=Cq c2 d.homes (2*i+1) aF.homes
  have ab:=rG aF.homes (2*i+1)
  have t1:(bq d.homes (2*i+1)).tmod (aV d:Nat)=bq d.homes (2*i+1) % (aV d:Nat):=jZ ab.1
  have t2:(bq d.homes (2*i+1)).tmod 3=bq d.homes (2*i+1) % 3:=jZ ab.1
  have ql:=nG (bq d.homes (2*i+1)) (b:=((aV d:Nat):Int)) (by omega)
  have h5:=l5 (bq d.homes (2*i+1)) (b:=((aV d:Nat):Int)) (by omega)
  have iZ:IntKind.i64.wrap (bq d.homes (2*i+1) % (aV d:Nat))=bq d.homes (2*i+1) % (aV d:Nat):=wrap_i64 (by omega) (by omega)
  have vh:IntKind.i64.wrap (bq d.homes (2*i+1) % 3)=bq d.homes (2*i+1) % 3:=wrap_i64 (by omega) (by omega)
  have iV:¬ (((aV d:Nat):Int)=0):=by omega
  have ey:=@JH c1 c2 dh eP d aF ((aV d+cH d:Nat):Int) (cu d) L aS ao (by omega) 1 (bP _) ((aV d+i:Nat):Int) (bq d.homes (2*i+1) % (aV d:Nat)) bn aR aw
  have eC:(en d L ((aV d+i:Nat):Int) (bq d.homes (2*i+1) % (aV d:Nat))).length≤24:=wR ao
  change ∀ Q:ah→aj→Prop,(∀ gD hL hk l,hL≤1→Q (.agg (hT _ (cu d).length (en d L ((aV d+i:Nat):Int) (bq d.homes (2*i+1) % (aV d:Nat))).length)) (e8 _ (cu d) (en d L ((aV d+i:Nat):Int) (bq d.homes (2*i+1) % (aV d:Nat))) (cu d).length L.length 1++kz _ (cu d).length gD hL hk l))→_ at ey
  generalize en d L ((aV d+i:Nat):Int) (bq d.homes (2*i+1) % (aV d:Nat))=FQ at *
  generalize bq d.homes (2*i+1)=V at *
  simp only[e8,kz,th,dS,ea]at ey an ⊢
  by_cases aE:0<V % 3
  ·have d1:=bY aE
   rw[a6 aE]at an
   (repeat' first|simp only[EE,z3,go_sem,aT,aW,bw,cB,bZ,mc,aB,hw,v1,v2,iZ,v4,vh,bB,t1,t2,iV,d1]|with_reducible first|refine aZ fun _=>?_|refine a1 ?_|fail)
   with_reducible refine ey _ ?_
   intro gD hL hk l vT
   (repeat' first|simp only[dS,ea,go_sem,aT,aW,bw,cB,bZ,mc,hw,zs]|with_reducible first|refine aZ fun _=>?_|refine a1 ?_|fail)
   all_goals(refine an _ _ ⟨?_,eC,?_⟩<;>simp only[go_sem,fw,aT,aW,bw,cB,bZ,mc,hw])
  ·have d1:=bA aE
   rw[a2 aE]at an
   (repeat' first|simp only[EE,z3,go_sem,aT,aW,bw,cB,bZ,mc,aB,hw,v1,v2,iZ,v4,vh,bB,t1,t2,iV,d1,zs]|with_reducible first|refine aZ fun _=>?_|refine a1 ?_|fail)
   all_goals(refine an _ _ ⟨?_,ao,?_⟩<;>simp only[go_sem,fw,aT,aW,bw,cB,bZ,mc,hw])
 ·intro L e h Y R aB ⟨⟨⟨aT,aW,bw,bZ⟩,cB,mc⟩,ao,aY⟩ an
  subst aY
  simp only[e8]at an ⊢
  simp only[EE,z3,go_sem,aT,aW,bw,cB,bZ,mc,aB]
  all_goals(refine an _ _ _ ⟨?_,rfl,rfl⟩;simp only[go_sem,fw,aT,aW,bw,cB,bZ,mc])
 ·exact⟨he,PX d,rfl⟩
 ·intro x e h ⟨ad,ag,aJ⟩
  rw[DH (fun s L=>if 0<bq d.homes (2*s+1) % 3 then en d L ((aV d+s:Nat):Int) (bq d.homes (2*s+1) % (aV d:Nat))else L),← sZ]at aJ
  subst ag aJ
  exact bk _ ad
theorem ae0(bn aR:Nat)(aw:100<aR)(R:cW→aM→aj→Prop)(e:aM)(he:fw c1 c2 dh eP d e∧e 10=.t (I 0))
  (bk:∀ e,fw c1 c2 dh eP d e→R (.exit 8) e (e8 ((aV d+cH d:Nat):Int) (cu d) (nf d) (cu d).length (nf d).length 1)) :
  gP 4 (some [1,2,3,5,10]) (c6 Tryz.prog pol (a0 Tryz.prog pol) (inl Tryz.prog pol (a0 Tryz.prog pol) aR (bn+1)) aR 5 MG) R aR e (e8 ((aV d+cH d:Nat):Int) (cu d) (oV d) (cu d).length (oV d).length 1):=by
 obtain⟨cN,db,eG⟩:=tc aF
 obtain⟨s1,s2,a8⟩:=tV aF
 have aS:=Ei d aF
 have dY:=aF.b1.2
 refine wj (min 6 (d.b1.length / 2)) (step:=fun i (L:List dK)=>.go (en d L (bq d.b1 (2*i) % (aV d:Nat)) (bq d.b1 (2*i+1) % (aV d:Nat)))) (fin:=id)
  (St:=fun i L e h=>(fw c1 c2 dh eP d e∧e 10=.t (I ((2*i:Nat):Int)))∧L.length≤24∧h=e8 ((aV d+cH d:Nat):Int) (cu d) L (cu d).length L.length 1)
  (Ex:=fun L x e h=>(fw c1 c2 dh eP d e)∧x=.exit 8∧h=e8 ((aV d+cH d:Nat):Int) (cu d) L (cu d).length L.length 1) (s:=oV d) (by omega) ?_ ?_ (by omega) ?_ ?_
 ·intro i L e h Y R hi _ _ ⟨⟨⟨aT,aW,bw,bZ⟩,mb⟩,ao,aY⟩ an
  subst aY
  simp only[g6]at an
  have v1:IntKind.i64.wrap (((2*i:Nat):Int)+1)=((2*i+1:Nat):Int):=by rw[wrap_i64 (by omega) (by omega)];omega
  have v2:IntKind.i64.wrap (((2*i:Nat):Int)+2)=((2*(i+1):Nat):Int):=by rw[wrap_i64 (by omega) (by omega)];omega
  have d1:decide (((2*i+1:Nat):Int)<(d.b1.length:Nat))=true:=bY (by omega)
  have d2:decide (((2*i:Nat):Int)<12)=true:=bY (by omega)
  have kW:=rG aF.b1 (2*i)
  have j1:=rG aF.b1 (2*i+1)
  have cg:(d.b1.map gi)[2*i]? = some (gi (bq d.b1 (2*i))):=by simp[bq,show 2*i<d.b1.length by omega]
  have c5:(d.b1.map gi)[2*i+1]? = some (gi (bq d.b1 (2*i+1))):=by simp[bq,show 2*i+1<d.b1.length by omega]
  have a3:2*i<d.b1.length:=by omega
  have a7:2*i+1<d.b1.length:=by omega
  have t1:(bq d.b1 (2*i)).tmod (aV d:Nat)=bq d.b1 (2*i) % (aV d:Nat):=jZ kW.1
  have t2:(bq d.b1 (2*i+1)).tmod (aV d:Nat)=bq d.b1 (2*i+1) % (aV d:Nat):=jZ j1.1
  have gy:IntKind.i64.wrap (bq d.b1 (2*i))=bq d.b1 (2*i):=wrap_i64 (by omega) (by omega)
  have iY:IntKind.i64.wrap (bq d.b1 (2*i+1))=bq d.b1 (2*i+1):=wrap_i64 (by omega) (by omega)
  have fR:=nG (bq d.b1 (2*i)) (b:=((aV d:Nat):Int)) (by omega)
  have gR:=l5 (bq d.b1 (2*i)) (b:=((aV d:Nat):Int)) (by omega)
  have pa:=nG (bq d.b1 (2*i+1)) (b:=((aV d:Nat):Int)) (by omega)
  have Nb:=l5 (bq d.b1 (2*i+1)) (b:=((aV d:Nat):Int)) (by omega)
  have iZ:IntKind.i64.wrap (bq d.b1 (2*i) % (aV d:Nat))=bq d.b1 (2*i) % (aV d:Nat):=wrap_i64 (by omega) (by omega)
  have v4:IntKind.i64.wrap (bq d.b1 (2*i+1) % (aV d:Nat))=bq d.b1 (2*i+1) % (aV d:Nat):=wrap_i64 (by omega) (by omega)
  have iV:¬ (((aV d:Nat):Int)=0):=by omega
  have ey:=@JH c1 c2 dh eP d aF ((aV d+cH d:Nat):Int) (cu d) L aS ao (by omega) 1 (bP _) (bq d.b1 (2*i) % (aV d:Nat)) (bq d.b1 (2*i+1) % (aV d:Nat)) bn aR aw
  have eC:(en d L (bq d.b1 (2*i) % (aV d:Nat)) (bq d.b1 (2*i+1) % (aV d:Nat))).length≤24:=wR ao
  change ∀ Q:ah→aj→Prop,(∀ gD hL hk l,hL≤1→Q (.agg (hT _ (cu d).length (en d L (bq d.b1 (2*i) % (aV d:Nat)) (bq d.b1 (2*i+1) % (aV d:Nat))).length)) (e8 _ (cu d) (en d L (bq d.b1 (2*i) % (aV d:Nat)) (bq d.b1 (2*i+1) % (aV d:Nat))) (cu d).length L.length 1++kz _ (cu d).length gD hL hk l))→_ at ey
  generalize en d L (bq d.b1 (2*i) % (aV d:Nat)) (bq d.b1 (2*i+1) % (aV d:Nat))=FQ at *
  generalize bq d.b1 (2*i)=agj at *
  generalize bq d.b1 (2*i+1)=agk at *
  simp only[e8,kz,th,dS,ea]at ey an ⊢
  (repeat' first|simp only[EF,z4,go_sem,aT,aW,bw,bZ,mb,v1,v2,iZ,v4,gy,iY,d1,d2,cg,c5,a3,a7,t1,t2,iV]|with_reducible first|refine aZ fun _=>?_|refine a1 ?_|fail)
  with_reducible refine ey _ ?_
  intro gD hL hk l vT
  simp only[dS,ea,go_sem,aT,aW,bw,bZ,mb,v2,zs]
  all_goals(refine an _ _ ⟨?_,eC,?_⟩<;>simp only[go_sem,fw,aT,aW,bw,bZ,mb,v2])
 ·intro L e h Y R _ ⟨⟨⟨aT,aW,bw,bZ⟩,mb⟩,ao,aY⟩ an
  subst aY
  have v1:IntKind.i64.wrap (((2*min 6 (d.b1.length / 2):Nat):Int)+1)=((2*min 6 (d.b1.length / 2)+1:Nat):Int):=by rw[wrap_i64 (by omega) (by omega)];omega
  simp only[e8]at an ⊢
  by_cases aE:2*min 6 (d.b1.length / 2)+1<d.b1.length
  ·have d1:decide (((2*min 6 (d.b1.length / 2)+1:Nat):Int)<(d.b1.length:Nat))=true:=bY (by omega)
   have d2:decide (((2*min 6 (d.b1.length / 2):Nat):Int)<12)=false:=bA (by omega)
   generalize 2*min 6 (d.b1.length / 2)=K at *
   simp only[EF,z4,go_sem,aT,aW,bw,bZ,mb,v1,d1,d2]
   all_goals(refine an _ _ _ ⟨?_,rfl,rfl⟩;simp only[go_sem,fw,aT,aW,bw,bZ,mb])
  ·have d1:decide (((2*min 6 (d.b1.length / 2)+1:Nat):Int)<(d.b1.length:Nat))=false:=bA (by omega)
   generalize 2*min 6 (d.b1.length / 2)=K at *
   simp only[EF,z4,go_sem,aT,aW,bw,bZ,mb,v1,d1]
   all_goals(refine an _ _ _ ⟨?_,rfl,rfl⟩;simp only[go_sem,fw,aT,aW,bw,bZ,mb])
 ·exact⟨he,XV d,rfl⟩
 ·intro x e h ⟨ad,ag,aJ⟩
  rw[DH (fun i L=>en d L (bq d.b1 (2*i) % (aV d:Nat)) (bq d.b1 (2*i+1) % (aV d:Nat))),← sZ]at aJ
  subst ag aJ
  exact bk _ ad
end
end Go.Proofs.YtogagakgmbkonaaGreat
namespace Go.Proofs.YtogagakgmbkonaaGreat
open Go Go.Abs
def ml(ks lV n1:Nat)(eh:dK)(N:Int)(st:List Bool)(L:List dK)(s q aG:Nat):aj:=e8 N st L s q aG++kz N s ks lV n1 eh
section
variable(ks lV n1:Nat)(xP:lV≤1)(eh:dK)
include xP
theorem aft(c1 c2 dh eP:Bool)(d:jW)(aF:vF d)(N:Int)(st:List Bool)(L:List dK)(aS:(st.length:Int)=N)(eL:L.length≤24)(bG:N≤12)(aG:Nat)(bN:aG≤1)(a b:Int)(bn aR:Nat)(aw:100<aR)(Q:ah→aj→Prop)
  (bI:∀ gD hL hk l,hL≤1→Q (.agg (hT N st.length (vm d N st L a b).length)) (ml ks lV n1 eh N st (vm d N st L a b) st.length L.length aG++kz N st.length gD hL hk l)) :
  ej (inl Tryz.prog pol (a0 Tryz.prog pol) aR (bn+1) (.fn 17) [.t (th c1 c2 dh eP d),.agg (hT N st.length L.length),.t (I a),.t (I b)] (ml ks lV n1 eh N st L st.length L.length aG)) Q:=by
 have bB:=Cq dh d.lW L.length aF.lW
 have aO:=Cq eP d.nP L.length aF.nP
 have cN:=rG aF.lW L.length
 have db:=rG aF.nP L.length
 have t1:(bq d.lW L.length).tmod 20=bq d.lW L.length % 20:=jZ cN.1
 have t2:(bq d.nP L.length).tmod 50=bq d.nP L.length % 50:=jZ db.1
 have v1:IntKind.i64.wrap (bq d.lW L.length % 20)=bq d.lW L.length % 20:=wrap_i64 (by omega) (by omega)
 have v2:IntKind.i64.wrap (bq d.nP L.length % 50)=bq d.nP L.length % 50:=wrap_i64 (by omega) (by omega)
 have iZ:IntKind.i64.wrap (1+bq d.lW L.length % 20)=1+bq d.lW L.length % 20:=wrap_i64 (by omega) (by omega)
 have ed:=ac4 false false ⟨N,st,L⟩ (fh d L.length a b) aS
 simp only[fh]at ed
 have fA:((st.map B).map ah.t).length=st.length:=by simp
 have eC:((L.map dH).map ah.t).length=L.length:=by simp
 have hw:vm d N st L a b=if L.length=24∨sD ⟨N,st,L⟩ (fh d L.length a b)=false then L else if sy L a b=true then L else L++[fh d L.length a b]:=rfl
 have fr:(L.length+1)*32≤eQ:=l9 (by omega) (by omega)
 by_cases G8:L.length=24
 ·have d1:decide ((L.length:Int)=24)=true:=bY (by omega)
  rw[hw,a6 (.inl G8)]at bI
  simp only[ml,e8,kz,dS,ea]at bI ⊢
  with_reducible refine lp Er ?_ ?_
  ·exact bH rfl
  (repeat' first|simp only[uW,go_sem,bB,aO,t1,t2,v1,v2,iZ,d1,bN,xP,fA,eC]|with_reducible first|refine aZ fun _=>?_|refine a1 ?_|fail)
  all_goals exact bI _ _ _ (fh d L.length a b) (by omega)
 have d1:decide ((L.length:Int)=24)=false:=bA (by omega)
 cases sq:sD ⟨N,st,L⟩ (fh d L.length a b)with
 | false =>
  rw[hw,a6 (.inr sq)]at bI
  simp only[fh]at sq
  rw[sq]at ed
  simp only[ml,e8,kz,dS,ea]at bI ⊢
  with_reducible refine lp Er ?_ ?_
  ·exact bH rfl
  (repeat' first|simp only[uW,go_sem,bB,aO,t1,t2,v1,v2,iZ,ed,d1,bN,xP,fA,eC]|with_reducible first|refine aZ fun _=>?_|refine a1 ?_|fail)
  all_goals exact bI _ _ _ (fh d L.length a b) (by omega)
 | true =>
  rw[hw,a2 (by rintro(h|h);exact G8 h;rw[sq]at h;cases h)]at bI
  have Ht:=sq
  simp only[fh]at Ht
  rw[Ht]at ed
  have xW:((L.map dH).map ah.t)++[.t (nm (fh d L.length a b))]=(((L++[fh d L.length a b]).map dH).map ah.t):=by simp[dH]
  simp only[fh]at xW
  simp only[ml,e8,kz,dS,ea]at bI ⊢
  with_reducible refine lp Er ?_ ?_
  ·exact bH rfl
  (repeat' first|simp only[uW,go_sem,bB,aO,t1,t2,v1,v2,iZ,ed,d1,bN,xP,fA,eC]|with_reducible first|refine aZ fun _=>?_|refine a1 ?_|fail)
  refine k4 L dH (step:=fun i x (_:Unit)=>if(decide (x.a=a∧x.b=b∨x.a=b∧x.b=a))=true then dQ.out true else dQ.go ()) (fin:=fun _=>false)
   (St:=fun i _ e h=>(e 2=.t (I a)∧e 3=.t (I b)∧e 5=.ref 7 1 0 0∧e 8=.ref 8 1 0 0∧e 9=.t (I (L.length:Nat))∧e 10=.ref 9 1 0 0∧e 11=.t (I (i:Nat)))∧h=[.row 3 [.t rR] 0,.row 1 ((st.map B).map .t) 0,.row 4 ((L.map dH).map .t) 0,.row 3 [.agg (hT N st.length L.length)] aG,.row 3 [.agg (hT N st.length ks)] lV,.row 3 [.agg (hT N st.length n1)] 1,.row 4 [.t (nm eh)] 1,.row 3 [.agg (hT N st.length L.length)] 0,.row 3 [.t rR] 0,.row 4 [.t (nm (fh d L.length a b))] 1])
   (Ex:=fun r x e h=>(e 8=.ref 8 1 0 0∧(r=false→e 5=.ref 7 1 0 0∧e 10=.ref 9 1 0 0))∧(r=true∧x=.ret∧h=[.row 3 [.t rR] 0,.row 1 ((st.map B).map .t) 0,.row 4 ((L.map dH).map .t) 0,.row 3 [.agg (hT N st.length L.length)] aG,.row 3 [.agg (hT N st.length ks)] lV,.row 3 [.agg (hT N st.length n1)] 1,.row 4 [.t (nm eh)] 1,.row 3 [.agg (hT N st.length L.length)] 0,.row 3 [.agg (hT N st.length L.length)] 1,.row 4 [.t (nm (fh d L.length a b))] 1]∨r=false∧x=.exit 0∧h=[.row 3 [.t rR] 0,.row 1 ((st.map B).map .t) 0,.row 4 ((L.map dH).map .t) 0,.row 3 [.agg (hT N st.length L.length)] aG,.row 3 [.agg (hT N st.length ks)] lV,.row 3 [.agg (hT N st.length n1)] 1,.row 4 [.t (nm eh)] 1,.row 3 [.agg (hT N st.length L.length)] 0,.row 3 [.t rR] 0,.row 4 [.t (nm (fh d L.length a b))] 1])) (s:=()) (by omega) ?_ ?_ (by omega) ?_ ?_
  ·intro i x _ e h Y gn hm hi U bx aB je ⟨J,aY⟩ an
   subst aY
   have gb:=acN x a b
   have ou:((L.map dH).map ah.t)[i]? = some (.t (nm x)):=Ci (enc:=dH) U
   by_cases aU:(x.a=a∧x.b=b∨x.a=b∧x.b=a)
   ·have uG:=bY aU
    rw[uG]at gb
    rw[a6 uG,lg]at an
    simp only[fh]at an ⊢
    simp only[Es,zZ,go_sem,J,aB,ou,eC,gb,hi,bN,xP]
    all_goals(refine an _ _ _ ⟨⟨?_,by simp⟩,.inl ⟨by simp,rfl,rfl⟩⟩;simp only[go_sem,J])
   ·have uG:=bA aU
    rw[uG]at gb
    rw[a2 (by rw[uG];simp),g6]at an
    simp only[fh]at an ⊢
    (repeat' first|simp only[Es,zZ,go_sem,J,aB,je,ou,eC,gb,hi,bN,xP]|with_reducible first|refine aZ fun _=>?_|refine a1 ?_|fail)
    all_goals(refine an _ _ ⟨?_,rfl⟩;simp only[go_sem,J,je])
  ·intro _ e h Y gn aB ⟨J,aY⟩ an
   subst aY
   simp only[fh]at an ⊢
   simp only[Es,zZ,go_sem,J,aB]
   all_goals(refine an _ _ _ ⟨⟨?_,fun _=>?_⟩,.inr ⟨by simp,rfl,rfl⟩⟩<;>simp only[go_sem,J,Gk])
  ·refine⟨?_,rfl⟩
   simp only[go_sem]
  ·intro x e h ⟨⟨mO,dC⟩,U⟩
   have vS:∀(l:List dK) (k:Nat),gJ (fun i (x:dK) (_:Unit)=>if(decide (x.a=a∧x.b=b∨x.a=b∧x.b=a))=true then dQ.out true else dQ.go ()) (fun _=>false) k l ()=sy l a b:=by
    intro l
    induction l with
    | nil=>intro k;rfl
    | cons y l au =>
     intro k
     by_cases ar:(decide (y.a=a∧y.b=b∨y.a=b∧y.b=a))=true
     ·rw[q3 (r:=true) (a6 ar)]
      simp only[sy,Kk,ar,Ke]
     ·rw[ng (s':=()) (a2 ar),au]
      have pS:(decide (y.a=a∧y.b=b∨y.a=b∧y.b=a))=false:=by simpa using ar
      simp only[sy,Kk,pS,Gb]
   rw[vS]at U dC
   rcases U with⟨ab,rfl,rfl⟩|⟨ab,rfl,rfl⟩
   ·rw[ab,a6 rfl]at bI
    simp only[uW,go_sem,mO]
    all_goals exact bI _ _ _ (fh d L.length a b) (by omega)
   ·rw[ab,a2 (by simp)]at bI
    obtain⟨dC,QE⟩:=dC ab
    simp only[gT,jc,lF,fh]at bI
    rw[← xW]at bI
    simp only[uW,go_sem,mO,dC,QE,eC,fr,bN,xP]
    all_goals exact bI _ _ _ (fh d L.length a b) (by omega)
variable(c1 c2 dh eP:Bool)(d:jW)(aF:vF d)
include aF
theorem azO(bn aR:Nat)(aw:100<aR)(R:cW→aM→aj→Prop)(e:aM)(he:fw c1 c2 dh eP d e∧e 4=.t (I (cH d:Nat))∧e 9=.t (I 0))
  (bk:∀ e,fw c1 c2 dh eP d e→R (.exit 6) e (ml ks lV n1 eh ((aV d+cH d:Nat):Int) (cu d) (oV d) (cu d).length (oV d).length 1)) :
  gP 7 (some [1,2,3,4,5,9]) (c6 Tryz.prog pol (a0 Tryz.prog pol) (inl Tryz.prog pol (a0 Tryz.prog pol) aR (bn+1)) aR 5 MF) R aR e (ml ks lV n1 eh ((aV d+cH d:Nat):Int) (cu d) (jI d) (cu d).length (jI d).length 1):=by
 obtain⟨cN,db,eG⟩:=tc aF
 obtain⟨s1,s2,a8⟩:=tV aF
 have aS:=Ei d aF
 refine wj (cH d) (step:=fun s (L:List dK)=>.go (if 0<bq d.homes (2*s+1) % 3 then en d L ((aV d+s:Nat):Int) (bq d.homes (2*s+1) % (aV d:Nat))else L)) (fin:=id)
  (St:=fun i L e h=>(fw c1 c2 dh eP d e∧e 4=.t (I (cH d:Nat))∧e 9=.t (I (i:Nat)))∧L.length≤24∧h=ml ks lV n1 eh ((aV d+cH d:Nat):Int) (cu d) L (cu d).length L.length 1)
  (Ex:=fun L x e h=>(fw c1 c2 dh eP d e)∧x=.exit 6∧h=ml ks lV n1 eh ((aV d+cH d:Nat):Int) (cu d) L (cu d).length L.length 1) (s:=jI d) (by omega) ?_ ?_ (by omega) ?_ ?_
 ·intro i L e h Y R hi aB hw ⟨⟨⟨aT,aW,bw,bZ⟩,cB,mc⟩,ao,aY⟩ an
  subst aY
  simp only[g6]at an
  have v1:IntKind.i64.wrap (((aV d:Nat):Int)+(i:Nat))=((aV d+i:Nat):Int):=by rw[wrap_i64 (by omega) (by omega)];omega
  have v2:IntKind.i64.wrap (2*((i:Nat):Int))=((2*i:Nat):Int):=by rw[wrap_i64 (by omega) (by omega)];omega
  have v4:IntKind.i64.wrap (((2*i:Nat):Int)+1)=((2*i+1:Nat):Int):=by rw[wrap_i64 (by omega) (by omega)];omega
  have bB:=Cq c2 d.homes (2*i+1) aF.homes
  have ab:=rG aF.homes (2*i+1)
  have t1:(bq d.homes (2*i+1)).tmod (aV d:Nat)=bq d.homes (2*i+1) % (aV d:Nat):=jZ ab.1
  have t2:(bq d.homes (2*i+1)).tmod 3=bq d.homes (2*i+1) % 3:=jZ ab.1
  have ql:=nG (bq d.homes (2*i+1)) (b:=((aV d:Nat):Int)) (by omega)
  have h5:=l5 (bq d.homes (2*i+1)) (b:=((aV d:Nat):Int)) (by omega)
  have iZ:IntKind.i64.wrap (bq d.homes (2*i+1) % (aV d:Nat))=bq d.homes (2*i+1) % (aV d:Nat):=wrap_i64 (by omega) (by omega)
  have vh:IntKind.i64.wrap (bq d.homes (2*i+1) % 3)=bq d.homes (2*i+1) % 3:=wrap_i64 (by omega) (by omega)
  have iV:¬ (((aV d:Nat):Int)=0):=by omega
  have ey:=@aft ks lV n1 xP eh c1 c2 dh eP d aF ((aV d+cH d:Nat):Int) (cu d) L aS ao (by omega) 1 (bP _) ((aV d+i:Nat):Int) (bq d.homes (2*i+1) % (aV d:Nat)) bn aR aw
  have eC:(en d L ((aV d+i:Nat):Int) (bq d.homes (2*i+1) % (aV d:Nat))).length≤24:=wR ao
  change ∀ Q:ah→aj→Prop,(∀ gD hL hk l,hL≤1→Q (.agg (hT _ (cu d).length (en d L ((aV d+i:Nat):Int) (bq d.homes (2*i+1) % (aV d:Nat))).length)) (ml ks lV n1 eh _ (cu d) (en d L ((aV d+i:Nat):Int) (bq d.homes (2*i+1) % (aV d:Nat))) (cu d).length L.length 1++kz _ (cu d).length gD hL hk l))→_ at ey
  generalize en d L ((aV d+i:Nat):Int) (bq d.homes (2*i+1) % (aV d:Nat))=FQ at *
  generalize bq d.homes (2*i+1)=V at *
  simp only[ml,e8,kz,th,dS,ea]at ey an ⊢
  by_cases aE:0<V % 3
  ·have d1:=bY aE
   rw[a6 aE]at an
   (repeat' first|simp only[EE,z3,go_sem,aT,aW,bw,cB,bZ,mc,aB,hw,v1,v2,iZ,v4,vh,bB,t1,t2,iV,d1]|with_reducible first|refine aZ fun _=>?_|refine a1 ?_|fail)
   with_reducible refine ey _ ?_
   intro gD hL hk l vT
   (repeat' first|simp only[dS,ea,go_sem,aT,aW,bw,cB,bZ,mc,hw,zs]|with_reducible first|refine aZ fun _=>?_|refine a1 ?_|fail)
   all_goals(refine an _ _ ⟨?_,eC,?_⟩<;>simp only[go_sem,fw,aT,aW,bw,cB,bZ,mc,hw])
  ·have d1:=bA aE
   rw[a2 aE]at an
   (repeat' first|simp only[EE,z3,go_sem,aT,aW,bw,cB,bZ,mc,aB,hw,v1,v2,iZ,v4,vh,bB,t1,t2,iV,d1,zs]|with_reducible first|refine aZ fun _=>?_|refine a1 ?_|fail)
   all_goals(refine an _ _ ⟨?_,ao,?_⟩<;>simp only[go_sem,fw,aT,aW,bw,cB,bZ,mc,hw])
 ·intro L e h Y R aB ⟨⟨⟨aT,aW,bw,bZ⟩,cB,mc⟩,ao,aY⟩ an
  subst aY
  simp only[ml,e8,kz,dS,ea]at an ⊢
  simp only[EE,z3,go_sem,aT,aW,bw,cB,bZ,mc,aB]
  all_goals(refine an _ _ _ ⟨?_,rfl,rfl⟩;simp only[go_sem,fw,aT,aW,bw,cB,bZ,mc])
 ·exact⟨he,PX d,rfl⟩
 ·intro x e h ⟨ad,ag,aJ⟩
  rw[DH (fun s L=>if 0<bq d.homes (2*s+1) % 3 then en d L ((aV d+s:Nat):Int) (bq d.homes (2*s+1) % (aV d:Nat))else L),← sZ]at aJ
  subst ag aJ
  exact bk _ ad
theorem azP(bn aR:Nat)(aw:100<aR)(R:cW→aM→aj→Prop)(e:aM)(he:fw c1 c2 dh eP d e∧e 10=.t (I 0))
  (bk:∀ e,fw c1 c2 dh eP d e→R (.exit 8) e (ml ks lV n1 eh ((aV d+cH d:Nat):Int) (cu d) (nf d) (cu d).length (nf d).length 1)) :
  gP 7 (some [1,2,3,5,10]) (c6 Tryz.prog pol (a0 Tryz.prog pol) (inl Tryz.prog pol (a0 Tryz.prog pol) aR (bn+1)) aR 5 MG) R aR e (ml ks lV n1 eh ((aV d+cH d:Nat):Int) (cu d) (oV d) (cu d).length (oV d).length 1):=by
 obtain⟨cN,db,eG⟩:=tc aF
 obtain⟨s1,s2,a8⟩:=tV aF
 have aS:=Ei d aF
 have dY:=aF.b1.2
 refine wj (min 6 (d.b1.length / 2)) (step:=fun i (L:List dK)=>.go (en d L (bq d.b1 (2*i) % (aV d:Nat)) (bq d.b1 (2*i+1) % (aV d:Nat)))) (fin:=id)
  (St:=fun i L e h=>(fw c1 c2 dh eP d e∧e 10=.t (I ((2*i:Nat):Int)))∧L.length≤24∧h=ml ks lV n1 eh ((aV d+cH d:Nat):Int) (cu d) L (cu d).length L.length 1)
  (Ex:=fun L x e h=>(fw c1 c2 dh eP d e)∧x=.exit 8∧h=ml ks lV n1 eh ((aV d+cH d:Nat):Int) (cu d) L (cu d).length L.length 1) (s:=oV d) (by omega) ?_ ?_ (by omega) ?_ ?_
 ·intro i L e h Y R hi _ _ ⟨⟨⟨aT,aW,bw,bZ⟩,mb⟩,ao,aY⟩ an
  subst aY
  simp only[g6]at an
  have v1:IntKind.i64.wrap (((2*i:Nat):Int)+1)=((2*i+1:Nat):Int):=by rw[wrap_i64 (by omega) (by omega)];omega
  have v2:IntKind.i64.wrap (((2*i:Nat):Int)+2)=((2*(i+1):Nat):Int):=by rw[wrap_i64 (by omega) (by omega)];omega
  have d1:decide (((2*i+1:Nat):Int)<(d.b1.length:Nat))=true:=bY (by omega)
  have d2:decide (((2*i:Nat):Int)<12)=true:=bY (by omega)
  have kW:=rG aF.b1 (2*i)
  have j1:=rG aF.b1 (2*i+1)
  have cg:(d.b1.map gi)[2*i]? = some (gi (bq d.b1 (2*i))):=by simp[bq,show 2*i<d.b1.length by omega]
  have c5:(d.b1.map gi)[2*i+1]? = some (gi (bq d.b1 (2*i+1))):=by simp[bq,show 2*i+1<d.b1.length by omega]
  have a3:2*i<d.b1.length:=by omega
  have a7:2*i+1<d.b1.length:=by omega
  have t1:(bq d.b1 (2*i)).tmod (aV d:Nat)=bq d.b1 (2*i) % (aV d:Nat):=jZ kW.1
  have t2:(bq d.b1 (2*i+1)).tmod (aV d:Nat)=bq d.b1 (2*i+1) % (aV d:Nat):=jZ j1.1
  have gy:IntKind.i64.wrap (bq d.b1 (2*i))=bq d.b1 (2*i):=wrap_i64 (by omega) (by omega)
  have iY:IntKind.i64.wrap (bq d.b1 (2*i+1))=bq d.b1 (2*i+1):=wrap_i64 (by omega) (by omega)
  have fR:=nG (bq d.b1 (2*i)) (b:=((aV d:Nat):Int)) (by omega)
  have gR:=l5 (bq d.b1 (2*i)) (b:=((aV d:Nat):Int)) (by omega)
  have pa:=nG (bq d.b1 (2*i+1)) (b:=((aV d:Nat):Int)) (by omega)
  have Nb:=l5 (bq d.b1 (2*i+1)) (b:=((aV d:Nat):Int)) (by omega)
  have iZ:IntKind.i64.wrap (bq d.b1 (2*i) % (aV d:Nat))=bq d.b1 (2*i) % (aV d:Nat):=wrap_i64 (by omega) (by omega)
  have v4:IntKind.i64.wrap (bq d.b1 (2*i+1) % (aV d:Nat))=bq d.b1 (2*i+1) % (aV d:Nat):=wrap_i64 (by omega) (by omega)
  have iV:¬ (((aV d:Nat):Int)=0):=by omega
  have ey:=@aft ks lV n1 xP eh c1 c2 dh eP d aF ((aV d+cH d:Nat):Int) (cu d) L aS ao (by omega) 1 (bP _) (bq d.b1 (2*i) % (aV d:Nat)) (bq d.b1 (2*i+1) % (aV d:Nat)) bn aR aw
  have eC:(en d L (bq d.b1 (2*i) % (aV d:Nat)) (bq d.b1 (2*i+1) % (aV d:Nat))).length≤24:=wR ao
  change ∀ Q:ah→aj→Prop,(∀ gD hL hk l,hL≤1→Q (.agg (hT _ (cu d).length (en d L (bq d.b1 (2*i) % (aV d:Nat)) (bq d.b1 (2*i+1) % (aV d:Nat))).length)) (ml ks lV n1 eh _ (cu d) (en d L (bq d.b1 (2*i) % (aV d:Nat)) (bq d.b1 (2*i+1) % (aV d:Nat))) (cu d).length L.length 1++kz _ (cu d).length gD hL hk l))→_ at ey
  generalize en d L (bq d.b1 (2*i) % (aV d:Nat)) (bq d.b1 (2*i+1) % (aV d:Nat))=FQ at *
  generalize bq d.b1 (2*i)=agj at *
  generalize bq d.b1 (2*i+1)=agk at *
  simp only[ml,e8,kz,th,dS,ea]at ey an ⊢
  (repeat' first|simp only[EF,z4,go_sem,aT,aW,bw,bZ,mb,v1,v2,iZ,v4,gy,iY,d1,d2,cg,c5,a3,a7,t1,t2,iV]|with_reducible first|refine aZ fun _=>?_|refine a1 ?_|fail)
  with_reducible refine ey _ ?_
  intro gD hL hk l vT
  simp only[dS,ea,go_sem,aT,aW,bw,bZ,mb,v2,zs]
  all_goals(refine an _ _ ⟨?_,eC,?_⟩<;>simp only[go_sem,fw,aT,aW,bw,bZ,mb,v2])
 ·intro L e h Y R _ ⟨⟨⟨aT,aW,bw,bZ⟩,mb⟩,ao,aY⟩ an
  subst aY
  have v1:IntKind.i64.wrap (((2*min 6 (d.b1.length / 2):Nat):Int)+1)=((2*min 6 (d.b1.length / 2)+1:Nat):Int):=by rw[wrap_i64 (by omega) (by omega)];omega
  simp only[ml,e8,kz,dS,ea]at an ⊢
  by_cases aE:2*min 6 (d.b1.length / 2)+1<d.b1.length
  ·have d1:decide (((2*min 6 (d.b1.length / 2)+1:Nat):Int)<(d.b1.length:Nat))=true:=bY (by omega)
   have d2:decide (((2*min 6 (d.b1.length / 2):Nat):Int)<12)=false:=bA (by omega)
   generalize 2*min 6 (d.b1.length / 2)=K at *
   simp only[EF,z4,go_sem,aT,aW,bw,bZ,mb,v1,d1,d2]
   all_goals(refine an _ _ _ ⟨?_,rfl,rfl⟩;simp only[go_sem,fw,aT,aW,bw,bZ,mb])
  ·have d1:decide (((2*min 6 (d.b1.length / 2)+1:Nat):Int)<(d.b1.length:Nat))=false:=bA (by omega)
   generalize 2*min 6 (d.b1.length / 2)=K at *
   simp only[EF,z4,go_sem,aT,aW,bw,bZ,mb,v1,d1]
   all_goals(refine an _ _ _ ⟨?_,rfl,rfl⟩;simp only[go_sem,fw,aT,aW,bw,bZ,mb])
 ·exact⟨he,XV d,rfl⟩
 ·intro x e h ⟨ad,ag,aJ⟩
  rw[DH (fun i L=>en d L (bq d.b1 (2*i) % (aV d:Nat)) (bq d.b1 (2*i+1) % (aV d:Nat))),← sZ]at aJ
  subst ag aJ
  exact bk _ ad
end
end Go.Proofs.YtogagakgmbkonaaGreat
namespace Go.Proofs.YtogagakgmbkonaaGreat
open Go Go.Abs
theorem agc(c1 c2 dh eP:Bool)(d:jW)(aF:vF d):a0 Tryz.prog pol 5 [th c1 c2 dh eP d]=some (fY false false (kU d)):=by
 obtain⟨cN,db,eG⟩:=tc aF
 obtain⟨s1,s2,a8⟩:=tV aF
 have Hi:=aF.ma
 have ox:=aF.st
 have t1:d.ma.tmod 6=d.ma % 6:=jZ Hi.1
 have t2:d.st.tmod 5=d.st % 5:=jZ ox.1
 have t3:d.ma.tmod 2=d.ma % 2:=jZ Hi.1
 have cI:IntKind.u8.wrap (d.ma % 6)=d.ma % 6:=by rw[wrap_u8];omega
 have dZ:IntKind.u8.wrap (d.st % 5)=d.st % 5:=by rw[wrap_u8];omega
 have hE:IntKind.u8.wrap (d.ma % 2)=d.ma % 2:=by rw[wrap_u8];omega
 have v1:IntKind.i64.wrap (d.ma % 6)=d.ma % 6:=wrap_i64 (by omega) (by omega)
 have v2:IntKind.i64.wrap (d.st % 5)=d.st % 5:=wrap_i64 (by omega) (by omega)
 have iZ:IntKind.i64.wrap (1+d.ma % 6)=((aV d:Nat):Int):=by rw[wrap_i64 (by omega) (by omega)];omega
 have v4:IntKind.i64.wrap (2+d.st % 5)=((cH d:Nat):Int):=by rw[wrap_i64 (by omega) (by omega)];omega
 have vh:IntKind.i64.wrap (((aV d:Nat):Int)+(cH d:Nat))=((aV d+cH d:Nat):Int):=by rw[wrap_i64 (by omega) (by omega)];omega
 have v6:IntKind.i64.wrap (((aV d:Nat):Int)-1)=((aV d-1:Nat):Int):=by rw[wrap_i64 (by omega) (by omega)];omega
 obtain⟨aR,aBR⟩:∃ aR,2000<aR:=⟨2001,by omega⟩
 have aw:100<aR:=by omega
 have aS:=Ei d aF
 have Lv:=PW d
 have ey:=@JH c1 c2 dh eP d aF ((aV d+cH d:Nat):Int) (cu d) (oU d) aS Lv (by omega) 1 (bP _) ((aV d-1:Nat):Int) 0 4 aR aw
 refine cK aR 5 aqH (bH rfl) ?_
 simp only[abY]
 (repeat' first|simp only[dS,ea,go_sem,t1,t2,cI,dZ,v1,v2,iZ,v4,vh]|with_reducible first|refine aZ fun _=>?_|refine a1 ?_|fail)
 refine azL c1 c2 dh eP d aF 5 aR aw _ _ (by simp only[go_sem,fw]) ?_
 intro e ⟨⟨aT,aW,bw,bZ⟩,cB⟩
 simp only[e8]
 (repeat' first|simp only[dS,ea,go_sem,aT,aW,bw,cB,bZ]|with_reducible first|refine aZ fun _=>?_|refine a1 ?_|fail)
 refine azM c1 c2 dh eP d aF 4 aR aw _ _ (by simp only[go_sem,fw,aT,aW,bw,cB,bZ]) ?_
 clear aT aW bw bZ cB
 intro e ⟨⟨aT,aW,bw,bZ⟩,cB⟩
 simp only[e8]
 (repeat' first|simp only[dS,ea,go_sem,aT,aW,bw,cB,bZ]|with_reducible first|refine aZ fun _=>?_|refine a1 ?_|fail)
 refine azN c1 c2 dh eP d aF 4 aR aw _ _ (by simp only[go_sem,fw,aT,aW,bw,cB,bZ]) ?_
 clear aT aW bw bZ cB
 intro e ⟨⟨aT,aW,bw,bZ⟩,cB⟩
 have zB:fY false false (kU d)=.agg [I ((aV d+cH d:Nat):Int),.aP false 1 ((cu d).map B),.aP false 4 ((nf d).map dH)]:=rfl
 have aCe:((cu d).map B).map ah.t=((cu d).map B).map ah.t:=rfl
 have fA:(((cu d).map B).map ah.t).length=(cu d).length:=by simp
 have eC:(((nf d).map dH).map ah.t).length=(nf d).length:=by simp
 rw[zB]
 have tail:¬ (2<aV d∧d.ma % 2=0)→jI d=oU d:=fun h=>by rw[jI,a2 h]
 by_cases j1:2<aV d
 ·have d1:decide (2<((aV d:Nat):Int))=true:=bY (by omega)
  by_cases hm:d.ma % 2=0
  ·have d2:=bY hm
   have aJ:jI d=en d (oU d) ((aV d-1:Nat):Int) 0:=by rw[jI,a6 ⟨j1,hm⟩]
   change ∀ Q:ah→aj→Prop,(∀ gD hL hk l,hL≤1→Q (.agg (hT _ (cu d).length (en d (oU d) ((aV d-1:Nat):Int) 0).length)) (e8 _ (cu d) (en d (oU d) ((aV d-1:Nat):Int) 0) (cu d).length (oU d).length 1++kz _ (cu d).length gD hL hk l))→_ at ey
   rw[← aJ]at ey
   simp only[e8,kz,th,dS,ea]at ey ⊢
   (repeat' first|simp only[dS,ea,go_sem,aT,aW,bw,cB,bZ,d1,d2,t3,hE,v6]|with_reducible first|refine aZ fun _=>?_|refine a1 ?_|fail)
   with_reducible refine ey _ ?_
   intro gD hL hk l vT
   (repeat' first|simp only[dS,ea,go_sem,aT,aW,bw,cB,bZ]|with_reducible first|refine aZ fun _=>?_|refine a1 ?_|fail)
   have Hp:([.row 3 [.t rR] 0,.row 1 (((cu d).map B).map .t) 0,.row 4 (((jI d).map dH).map .t) 0,.row 3 [.agg [.t (I ((aV d+cH d:Nat):Int)),.ms 1 (cu d).length 0 (cu d).length 1 false,.ms 2 (jI d).length 0 (jI d).length 4 false]] 1,.row 3 [.agg (hT ((aV d+cH d:Nat):Int) (cu d).length gD)] hL,.row 3 [.agg (hT ((aV d+cH d:Nat):Int) (cu d).length hk)] 1,.row 4 [.t (nm l)] 1]:aj)=ml gD hL hk l ((aV d+cH d:Nat):Int) (cu d) (jI d) (cu d).length (jI d).length 1:=rfl
   rw[Hp]
   refine azO gD hL hk vT l c1 c2 dh eP d aF 4 aR aw _ _ (by simp only[go_sem,fw,aT,aW,bw,cB,bZ]) ?_
   clear aT aW bw bZ cB
   intro e ⟨aT,aW,bw,bZ⟩
   simp only[ml,e8,kz,dS,ea]
   (repeat' first|simp only[dS,ea,go_sem,aT,aW,bw,bZ]|with_reducible first|refine aZ fun _=>?_|refine a1 ?_|fail)
   refine azP gD hL hk vT l c1 c2 dh eP d aF 4 aR aw _ _ (by simp only[go_sem,fw,aT,aW,bw,bZ]) ?_
   clear aT aW bw bZ
   intro e ⟨aT,aW,bw,bZ⟩
   simp only[ml,e8,kz,dS,ea]
   (repeat' first|simp only[dS,ea,go_sem,aT,aW,bw,bZ,fA,eC]|with_reducible first|refine aZ fun _=>?_|refine a1 ?_|fail)
  ·have d2:=bA hm
   have aJ:=tail (fun h=>hm h.2)
   simp only[e8]
   (repeat' first|simp only[dS,ea,go_sem,aT,aW,bw,cB,bZ,d1,d2,t3,hE,v6]|with_reducible first|refine aZ fun _=>?_|refine a1 ?_|fail)
   have Hp:([.row 3 [.t rR] 0,.row 1 (((cu d).map B).map .t) 0,.row 4 (((oU d).map dH).map .t) 0,.row 3 [.agg (hT ((aV d+cH d:Nat):Int) (cu d).length (oU d).length)] 1]:aj)=e8 ((aV d+cH d:Nat):Int) (cu d) (jI d) (cu d).length (jI d).length 1:=by rw[aJ];rfl
   rw[Hp]
   refine aeZ c1 c2 dh eP d aF 4 aR aw _ _ (by simp only[go_sem,fw,aT,aW,bw,cB,bZ]) ?_
   clear aT aW bw bZ cB
   intro e ⟨aT,aW,bw,bZ⟩
   simp only[e8]
   (repeat' first|simp only[dS,ea,go_sem,aT,aW,bw,bZ]|with_reducible first|refine aZ fun _=>?_|refine a1 ?_|fail)
   refine ae0 c1 c2 dh eP d aF 4 aR aw _ _ (by simp only[go_sem,fw,aT,aW,bw,bZ]) ?_
   clear aT aW bw bZ
   intro e ⟨aT,aW,bw,bZ⟩
   simp only[e8]
   (repeat' first|simp only[dS,ea,go_sem,aT,aW,bw,bZ,fA,eC]|with_reducible first|refine aZ fun _=>?_|refine a1 ?_|fail)
 ·have d1:decide (2<((aV d:Nat):Int))=false:=bA (by omega)
  have aJ:=tail (fun h=>j1 h.1)
  simp only[e8]
  (repeat' first|simp only[dS,ea,go_sem,aT,aW,bw,cB,bZ,d1]|with_reducible first|refine aZ fun _=>?_|refine a1 ?_|fail)
  have Hp:([.row 3 [.t rR] 0,.row 1 (((cu d).map B).map .t) 0,.row 4 (((oU d).map dH).map .t) 0,.row 3 [.agg (hT ((aV d+cH d:Nat):Int) (cu d).length (oU d).length)] 1]:aj)=e8 ((aV d+cH d:Nat):Int) (cu d) (jI d) (cu d).length (jI d).length 1:=by rw[aJ];rfl
  rw[Hp]
  refine aeZ c1 c2 dh eP d aF 4 aR aw _ _ (by simp only[go_sem,fw,aT,aW,bw,cB,bZ]) ?_
  clear aT aW bw bZ cB
  intro e ⟨aT,aW,bw,bZ⟩
  simp only[e8]
  (repeat' first|simp only[dS,ea,go_sem,aT,aW,bw,bZ]|with_reducible first|refine aZ fun _=>?_|refine a1 ?_|fail)
  refine ae0 c1 c2 dh eP d aF 4 aR aw _ _ (by simp only[go_sem,fw,aT,aW,bw,bZ]) ?_
  clear aT aW bw bZ
  intro e ⟨aT,aW,bw,bZ⟩
  simp only[e8]
  (repeat' first|simp only[dS,ea,go_sem,aT,aW,bw,bZ,fA,eC]|with_reducible first|refine aZ fun _=>?_|refine a1 ?_|fail)
end Go.Proofs.YtogagakgmbkonaaGreat
namespace Go.Proofs.YtogagakgmbkonaaGreat
open Go Go.Abs
theorem Iu:lL Tryz.prog cX 3=some ⟨179,Ez,[(8,none)]⟩:=by kernel_rfl
theorem ai3(p:b7)(lt:Bool):kS p lt=0∨kS p lt=6∨kS p lt=7∨kS p lt=341∨kS p lt=342:=by
 unfold kS DA
 split
 ·simp
 ·split
  ·simp
  ·split
   ·simp
   ·split<;>simp
section
variable(uZ:a0 Tryz.prog cX 4 []=some (B true))(c1 c2 dh eP PG PH:Bool)(d:jW)(aF:vF d)(l:List D2)(ao:∀ x∈l,GN x)(gk:l.length<9223372036854775808)(a b c:Nat)(ae:a<256)(ab:b<256)(af:c<256)(CK:List Nat)(BO:∀ x∈CK,x<256)(HE:CK.length<9223372036854775808)
include uZ aF ao gk ae ab af BO HE
theorem azI:a0 Tryz.prog cX 3 [th c1 c2 dh eP d,.aP PG 8 (l.map zp),.agg [gi (a:Nat),gi (b:Nat),gi (c:Nat)],.aP PH 1 (CK.map fun n=>gi (n:Nat))]=some (B true):=by
 have lT:=up (agc c1 c2 dh eP d aF)
 have qv:=up (af6 a b c ae ab af)
 have h:=ajE aF
 have hu:=azf a b c ae ab af
 obtain⟨_,qw,L,rfl,eL⟩:=af9 false false PG (kU d) h l ao gk
 have qw:=up qw
 have J:=eL.all
 have aw:=eL.ne
 have aCc:=eL.l
 have u0:=AJ (kU d) _ h hu false false false L (by omega) J aw
 generalize CP a b c=u at *
 generalize kU d=t at *
 by_cases bl:kS (b2 t u L).1 (b2 t u L).2=0
 ·rw[wq,a6 bl]at u0
  obtain⟨av,aI,aB,hw⟩:=yi t u h hu L (by omega) J bl
  obtain⟨_,EO,any,rfl,Le⟩:=af7 false false PH (b2 t u L).1 av.len av.aK CK BO HE
  have EO:=up EO
  have IP:=up (Wy false false (b2 t u L).1 av false any Le)
  have sz:=Gq rfl (.solve false false (b2 t u L).1 300 av (by omega))
  have aAL:((300:Nat):Int)=300:=rfl
  rw[aAL]at sz
  -- where there is a schedule
  have tail:∀(co:Option Bool) (o:List Int),a0 Tryz.prog cX 9 [g1 false false (b2 t u L).1,I 300]=some (.ch [jG co o,gN,I 0])→tO (b2 t u L).1 o→(co=none→o=[])→co≠some true→nN (b2 t u L).1 o 0 o=false→a0 Tryz.prog cX 3 [th c1 c2 dh eP d,.aP PG 8 (l.map zp),.agg [gi (a:Nat),gi (b:Nat),gi (c:Nat)],.aP PH 1 (CK.map fun n=>gi (n:Nat))]=some (B true):=by
   intro co o sz aC pO Lj dx
   obtain⟨_,wg,gs,rfl,eT,mS⟩:=WG t u h hu L (by omega) J aw bl false false false co o aC pO dx
   obtain⟨uN,tv⟩:=as5 h hu (by omega) J bl aC eT mS
   have acQ:=afU t u h hu L (by omega) J aw bl false false false co true o aC pO dx gs eT uN tv
   generalize (gs.map fun es=>gW false es ((ga (b2 t u L).1.aK:Nat)*u.g))=G at *
   by_cases bo:L.length=0
   ·have d0:decide (((L.length:Nat):Int)=0)=true:=bY (by omega)
    refine cK 100 1 Iu (bH rfl) ?_
    (repeat' first|simp only[Ez,go_sem,uZ,lT,qv,qw,u0,sz,EO,IP,wg,acQ,d0,bJ]|with_reducible first|refine aZ fun _=>?_|refine a1 ?_|fail)
   ·obtain⟨L',s,vG⟩:∃ L' s,L=L'++[s]:=by
     rcases List.eq_nil_or_concat L with e|⟨L',s,e⟩
     ·rw[e]at bo;exact absurd rfl bo
     ·exact⟨L',s,by rw[e,List.concat_eq_append]⟩
    have QN:L.length=L'.length+1:=by rw[vG];simp
    have d0:decide (((L.length:Nat):Int)=0)=false:=bA (by omega)
    have ws:IntKind.i64.wrap (((L.length:Nat):Int)-1)=((L'.length:Nat):Int):=by rw[QN,wrap_i64 (by omega) (by omega)];omega
    obtain⟨zS,qh⟩:=@akI t u h hu L' s (by rw[← vG];omega) (by rw[← vG];exact J) (by rw[← vG];exact bl)
    obtain⟨gv,Rb⟩:=qh o (by rw[← vG];exact aC) (by rw[← vG];exact dx)
    have gl:∀ x∈L',iM t x:=fun x U=>J x (by rw[vG];simp[U])
    have ll:∀(i j:Nat) (a b:dg),L'[i]? = some a→L'[j]? = some b→i<j→a.id≠b.id:=fun i j a b hi aU=>aw i j a b (by rw[vG,fv (cD.1 hi).1];exact hi) (by rw[vG,fv (cD.1 aU).1];exact aU)
    have acR:=AJ t u h hu false false false L' (by omega) gl ll
    rw[wq,a6 zS]at acR
    obtain⟨o3,_⟩:=yi t u h hu L' (by omega) gl zS
    have Jw:kp 10 (.t (.aP false 10 (L.map ek))) none (some (.t (I (L'.length:Nat)))) none=some (.t (.aP false 10 (L'.map ek))):=by
     simp[kp,hM,asNat,vG]
    have ayd:kp 1 (.t (jG co o)) none (some (.t (I ((b2 t u L').1.aK.length:Nat)))) none=some (.t (jG co (o.take (b2 t u L').1.aK.length))):=by
     cases co with
     | none =>
      have e:=pO rfl
      subst e
      have aW:(b2 t u L').1.aK.length=0:=by have:=gv.len;simpa using this.symm
      rw[aW];rfl
     | some ki =>
      cases ki with
      | true=>exact absurd rfl Lj
      | false =>
       have aW:(b2 t u L').1.aK.length≤o.length:=by have:=gv.len;rw[r4]at this;omega
       simp[kp,hM,asNat,jG,aW,y7]
    have acO:=up (JP _ o3 co _ gv (fun e=>by rw[pO e];simp))
    rw[Rb]at acO
    refine cK 100 1 Iu (bH rfl) ?_
    (repeat' first|simp only[Ez,go_sem,uZ,lT,qv,qw,u0,sz,EO,IP,wg,acQ,d0,ws,Jw,ayd,acR,acO,bJ]|with_reducible first|refine aZ fun _=>?_|refine a1 ?_|fail)
  by_cases iV:(b2 t u L).1.aK.length=0
  ·rw[CN,a6 iV]at sz
   exact tail none [] sz ⟨by simp[iV],fun i x U=>by simp at U⟩ (fun _=>rfl) (by simp) rfl
  ·rw[CN,a2 iV]at sz
   cases dm:fx (b2 t u L).1 300 (b2 t u L).1.aK.length [] []with
   | lq =>
    rw[dm,Cw]at sz
    refine cK 100 1 Iu (bH rfl) ?_
    (repeat' first|simp only[Ez,go_sem,uZ,lT,qv,qw,u0,sz,EO,IP]|with_reducible first|refine aZ fun _=>?_|refine a1 ?_|fail)
   | yes g aH =>
    rw[dm,Cw]at sz
    obtain⟨aT,aW,bw⟩:=aeK av dm
    exact tail (some false) g sz ⟨bw,aT⟩ (fun e=>by cases e) (by simp) aW
   | no aH =>
    rw[dm,Cw]at sz
    have dx:=ayB av (by omega) dm Le.ok Le.len
    have acP:=up (ayE false false false av (by omega) (by omega) dm)
    have wg:=afX t u h hu L (by omega) J aw bl false false false (some false) any Le dx (fun e=>by cases e)
    simp only[jG]at wg
    rw[dx]at IP
    simp only[lX]at acP
    generalize aH.map tf=af2 at *
    generalize (any.map I)=O at *
    refine cK 100 1 Iu (bH rfl) ?_
    (repeat' first|simp only[Ez,go_sem,uZ,lT,qv,qw,u0,sz,EO,IP,wg,acP]|with_reducible first|refine aZ fun _=>?_|refine a1 ?_|fail)
 ·rw[wq,a2 bl]at u0
  have az:=ai3 (b2 t u L).1 (b2 t u L).2
  generalize kS (b2 t u L).1 (b2 t u L).2=v at *
  rcases az with rfl|rfl|rfl|rfl|rfl
  ·exact absurd rfl bl
  all_goals(refine cK 100 1 Iu (bH rfl) ?_)
  all_goals((repeat' first|simp only[Ez,go_sem,uZ,lT,qv,qw,u0]|with_reducible first|refine aZ fun _=>?_|refine a1 ?_|fail))
end
end Go.Proofs.YtogagakgmbkonaaGreat
namespace Go.Proofs.YtogagakgmbkonaaGreat
open Go Go.Abs
def t0:bR:=⟨3,[true,false,true],[⟨0,1,8,5⟩,⟨1,2,8,5⟩]⟩
def m5:fZ:=⟨100,2,10,8000⟩
def mz(id aK:Int):dg:=⟨id,0,2,7,100,aK,0,0,10000,[[0,2]],true,true⟩
theorem auS:a0 Tryz.prog pol 15 []=some (.ch [fY true true t0,sO m5]):=by
 refine cK 10 1 apN (bH rfl) ?_
 simp only[abc,go_sem]
 all_goals rfl
theorem azv(a b:Int):a0 Tryz.prog pol 16 [I a,I b]=some (ek (mz a b)):=by
 refine cK 10 1 apO (bH rfl) ?_
 simp only[abd,go_sem]
 all_goals rfl
theorem JC:g0 t0=true:=by decide
theorem JD:m4 m5:=⟨by decide,by decide,by decide,by decide⟩
theorem avY:hS t0 [0,2]:=⟨by decide,by decide,by unfold yr;decide,by decide,fun i p q ad ag=>by
 match i,ad,ag with
 | 0,ad,ag=>cases ad;cases ag;decide
 | n+1,ad,ag=>simp at ag⟩
theorem aet(a b:Int)(ae:1≤a∧a≤2)(ab:1≤b∧b≤240):iM t0 (mz a b):=⟨by simp only[mz];omega,by simp only[mz];decide,by simp only[mz];decide,by simp only[mz];decide,by simp only[mz];omega,by simp only[mz];omega,.inl ⟨rfl,ab,rfl,rfl⟩,fun r al=>by
 simp only[mz,kA]at al
 subst al
 exact⟨avY,rfl,rfl⟩,.inl ⟨_,rfl⟩⟩
abbrev sV:List dg:=[mz 1 20,mz 2 20]
abbrev uf:List dg:=[mz 1 20,mz 2 12]
theorem OC:∀ s∈sV,iM t0 s:=fun s J=>by
 simp only[iu,mG,mE]at J
 rcases J with rfl|rfl<;>exact aet _ _ (by omega) (by omega)
theorem WE:∀ s∈uf,iM t0 s:=fun s J=>by
 simp only[iu,mG,mE]at J
 rcases J with rfl|rfl<;>exact aet _ _ (by omega) (by omega)
theorem OE(x y:Int):∀(i j:Nat) (a b:dg),[mz 1 x,mz 2 y][i]? = some a→[mz 1 x,mz 2 y][j]? = some b→i<j→a.id≠b.id:=fun i j a b ae ab gY=>by
 match i,j,ae,ab,gY with
 | 0,1,ae,ab,_=>cases ae;cases ab;simp[mz]
 | 0,n+2,ae,ab,_=>simp at ab
 | 1,n+2,ae,ab,_=>simp at ab
 | n+2,_,ae,ab,_=>simp at ae
def aBi:hU→Option (List Int)
 | .yes g _=>some g
 | _=>none
def at7:hU→Option Nat
 | .no aH=>some aH.length
 | _=>none
theorem Vj:kS (b2 t0 m5 sV).1 (b2 t0 m5 sV).2=0:=by kernel_rfl
theorem adG:kS (b2 t0 m5 uf).1 (b2 t0 m5 uf).2=0:=by kernel_rfl
theorem Vk:(b2 t0 m5 sV).1.aK.length=2:=by kernel_rfl
theorem adH:(b2 t0 m5 uf).1.aK.length=2:=by kernel_rfl
theorem auO:aBi (fx (b2 t0 m5 sV).1 9 2 [] [])=some [0,9]:=by kernel_rfl
theorem auP:at7 (fx (b2 t0 m5 uf).1 9 2 [] [])=some 2:=by kernel_rfl
theorem aqy:lL Tryz.prog cX 4=some ⟨93,abM,[(0,none)]⟩:=by kernel_rfl
theorem ajG:a0 Tryz.prog cX 4 []=some (B true):=by
 have ass:=up auS
 have ast:=fun a b=>up (azv a b)
 have Uy:=AJ t0 m5 JC JD true true true sV (by simp) OC (OE 20 20)
 have Uz:=AJ t0 m5 JC JD true true true uf (by simp) WE (OE 20 12)
 rw[wq,a6 Vj]at Uy
 rw[wq,a6 adG]at Uz
 obtain⟨ZW,_⟩:=yi t0 m5 JC JD sV (by simp) OC Vj
 obtain⟨LD,_⟩:=yi t0 m5 JC JD uf (by simp) WE adG
 have MY:=Gq rfl (.solve false false _ 9 ZW (by omega))
 have UA:=Gq rfl (.solve false false _ 9 LD (by omega))
 have Oh:((9:Nat):Int)=9:=rfl
 rw[CN,a2 (by rw[Vk];omega),Vk,Oh]at MY
 rw[CN,a2 (by rw[adH];omega),adH,Oh]at UA
 obtain⟨aCZ,hI⟩:∃ aH,fx (b2 t0 m5 sV).1 9 2 [] []=.yes [0,9] aH:=by
  have h:=auO
  cases dm:fx (b2 t0 m5 sV).1 9 2 [] []with
  | yes g aH=>rw[dm]at h;cases h;exact⟨aH,rfl⟩
  | lq=>rw[dm]at h;cases h
  | no aH=>rw[dm]at h;cases h
 obtain⟨adL,pN,al7⟩:∃ aH,fx (b2 t0 m5 uf).1 9 2 [] []=.no aH∧aH.length=2:=by
  have h:=auP
  cases dm:fx (b2 t0 m5 uf).1 9 2 [] []with
  | no aH=>rw[dm]at h;exact⟨aH,rfl,Option.some.inj h⟩
  | lq=>rw[dm]at h;cases h
  | yes g aH=>rw[dm]at h;cases h
 rw[hI,Cw]at MY
 rw[pN,Cw]at UA
 have J:=hI
 rw[← Vk]at J
 obtain⟨aT,aW,bw⟩:=aeK ZW J
 obtain⟨_,wg,gs,rfl,_,_⟩:=WG t0 m5 JC JD sV (by simp) OC (OE 20 20) Vj true true true (some false) [0,9] ⟨bw,aT⟩ (fun e=>by cases e) aW
 simp only[jG]at wg
 generalize (b2 t0 m5 sV).1=aCW at *
 generalize (b2 t0 m5 uf).1=aCX at *
 generalize gs.map _=G at *
 have xw:(adL.map tf).length=2:=by rw[bJ];exact al7
 generalize adL.map tf=af2 at *
 have ajU:sV.map ek=[ek (mz 1 20),ek (mz 2 20)]:=rfl
 have ajV:uf.map ek=[ek (mz 1 20),ek (mz 2 12)]:=rfl
 rw[ajU]at Uy wg
 rw[ajV]at Uz
 have ajN:[(0:Int),9].map I=[I 0,I 9]:=rfl
 rw[ajN]at MY wg
 refine cK 100 1 aqy (bH rfl) ?_
 (repeat' first|simp only[abM,go_sem,ass,ast,Uy,Uz,MY,UA,wg,xw]|with_reducible first|refine aZ fun _=>?_|refine a1 ?_|fail)
end Go.Proofs.YtogagakgmbkonaaGreat
