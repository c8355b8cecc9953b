/- Part 17 of the proof of TopSchedule. -/
import Derived.Test.YtogagakgmbkonaaGreatS16
set_option linter.all false
set_option maxRecDepth 100000
set_option maxHeartbeats 4000000
namespace Go.Proofs.YtogagakgmbkonaaGreat
open Go Go.Abs
abbrev jj:=Int × Int × Int
abbrev qz(k:jj):T:=.agg [I k.1,I k.2.1,I k.2.2]
def iJ(k:jj):Value:=.agg #[.int .i64 k.1,.int .i64 k.2.1,.int .i64 k.2.2]
abbrev iS(b:Bool):ah:=.t (B b)
theorem EP(k:jj):fb (iJ k)=qz k:=rfl
theorem afc:dB Tryz.prog 81=some (.map 202 4):=by kernel_rfl
theorem Wt:zeroOf Tryz.prog 4=some (B false):=by kernel_rfl
theorem akp(cJ cU dU cN db eG:Int):ot Tryz.prog 20 202 (qz (cJ,cU,dU)) (qz (cN,db,eG))=some (cJ == cN && (cU == db && (dU == eG && true))):=by kernel_rfl
theorem asG(cJ cU dU:Int):qx Tryz.prog 20 202 (qz (cJ,cU,dU))=true:=by kernel_rfl
theorem acV:yV Tryz.prog 202 iJ where
 ok k:=rfl
 key k:=asG k.1 k.2.1 k.2.2
 eq a b:=by
  obtain⟨cJ,cU,dU⟩:=a
  obtain⟨cN,db,eG⟩:=b
  have h:ot Tryz.prog 20 202 (qz (cJ,cU,dU)) (qz (cN,db,eG))=some (decide (cJ=cN∧cU=db∧dU=eG)):=by
   rw[akp]
   congr 1
   by_cases ad:cJ=cN<;>by_cases ag:cU=db<;>by_cases aJ:dU=eG<;>simp[ad,ag,aJ]
  rw[EP,EP,h]
  congr 1
  exact y2.2 ⟨by rintro⟨rfl,rfl,rfl⟩;rfl,by rintro h;cases h;exact⟨rfl,rfl,rfl⟩⟩
 bits k:=by simp[iJ,Instr.sameBits]
def kj(p:b7)(i x j y:Int):Bool:=n0 p ((x-y) % bT p i) 0 i j 0 p.dr
def kq(p:b7)(l:List (jj × Bool)):Prop:=∀ k b,gZ l k=some b→b=n0 p k.2.1 0 k.1 k.2.2 0 p.dr
theorem as9(kn:List (jj × Bool))(k:jj)(cq ca cr:a9)(Y:aj):nn Tryz.prog 81 true (cq::ca::cr::.map (fk iJ iS kn)::Y) (.mp 3) (.t (qz k))=some (.t (.ch [B ((gZ kn k).getD false),B (gZ kn k).isSome])):=by
 have:=ac8 (h:=cq::ca::cr::.map (fk iJ iS kn)::Y) (o:=3) acV afc Wt k (f:=iS) (l:=kn) rfl
 rw[EP]at this
 rw[this]
 cases gZ kn k<;>rfl
theorem az7(kn:List (jj × Bool))(k:jj)(b:Bool)(cq ca cr:a9)(Y:aj):ua Tryz.prog 81 (cq::ca::cr::.map (fk iJ iS kn)::Y) (.mp 3) (.t (qz k)) (.t (B b))=some (cq::ca::cr::.map (fk iJ iS (mY kn k b))::Y) :=
 Oe (h:=cq::ca::cr::.map (fk iJ iS kn)::Y) (o:=3) acV afc k b (f:=iS) (l:=kn) rfl
abbrev iX(c1 c2:Bool)(p:b7)(bD:Int)(cZ c9:ah):ah:=.agg [.t (.aP c1 1 (p.aK.map I)),.t (.aP c2 4 (p.dr.map e3)),.t (I bD),cZ,c9,.mp 3]
def cE(cq ca cr:a9)(kn:List (jj × Bool))(S:ah)(fs:Nat)(X:aj):aj:=cq::ca::cr::.map (fk iJ iS kn)::.row 6 [S] fs::X
theorem XK(c1 c2:Bool)(p:b7)(h:jt p)(bD:Int)(cZ c9:ah)(fs:Nat)(ig:fs≤1)(cq ca cr:a9)(X:aj)(kn:List (jj × Bool))(hg:kq p kn)(i x j y:Int)
  (hi:0≤i∧i<p.aK.length) (U:0≤x∧x<240) (aU:0≤j∧j<p.aK.length) (ar:0≤y∧y<240) (gY:i=j→x=y) (bn aR:Nat) (Q:ah→aj→Prop)
  (bI:∀ eH,kq p eH→∀ row,Q (.t (B (kj p i x j y))) (cE cq ca cr eH (iX c1 c2 p bD cZ c9) fs (X++[row]))) :
  ej (inl Tryz.prog pol (a0 Tryz.prog pol) aR (bn+1) (.fn 88) [.ref 4 1 0 0,.t (I i),.t (I x),.t (I j),.t (I y)] (cE cq ca cr kn (iX c1 c2 p bD cZ c9) fs X)) Q:=by
 obtain⟨cN,db⟩:=oF p h hi
 obtain⟨eG,nb⟩:=oF p h aU
 obtain⟨gj,_⟩:=wv (p:=p) hi
 have gy:=hi.1
 have jM:i.toNat<p.aK.length:=by omega
 have h5:=Gf (x-y) (show 0<bT p i by omega)
 have iF:=JY (x-y) (show 0<bT p i by omega)
 have cI:IntKind.i64.wrap (x-y)=x-y:=wrap_i64 (by omega) (by omega)
 have dZ:IntKind.i64.wrap ((x-y).tmod (bT p i)+bT p i)=(x-y).tmod (bT p i)+bT p i:=wrap_i64 (by omega) (by omega)
 have ft:bT p i≠0:=by omega
 have lZ:=mod_eq (x-y) (bT p i) (by omega)
 have aT:=nG (x-y) ft
 have aW:=l5 (x-y) (show 0<bT p i by omega)
 have ln:=Wx c1 c2 p h i ((x-y) % bT p i) j 0 hi ⟨aT,aW⟩ aU ⟨by omega,by omega⟩ (fun he=>by rw[gY he,Int.sub_self,O9])
 have ay:∀ b,gZ kn (i,(x-y) % bT p i,j)=some b→b=kj p i x j y:=fun b ab=>hg _ _ ab
 have av:kq p (mY kn (i,(x-y) % bT p i,j) (kj p i x j y)):=fun k b ab=>by
  rw[Cl]at ab
  split at ab
  ·rename_i an
   subst an
   cases ab
   rfl
  ·exact hg k b ab
 change a0 Tryz.prog pol 95 [_,_,_,_,_]=some (.ch [B (kj p i x j y),_])at ln
 generalize kj p i x j y=r at *
 generalize (x-y) % bT p i=d at *
 generalize eB:bT p i=P at *
 have kZ:=as9 kn (i,d,j)
 have rl:=az7 kn (i,d,j) r
 have iR:4<X.length+1+1+1+1+1:=by omega
 refine lp aq9 (bH rfl) ?_
 simp only[cE,dS]at bI ⊢
 cases az:gZ kn (i,d,j)with
 | none =>
  rw[az]at kZ
  simp only[Option.getD_none,OY]at kZ
  (repeat' first|simp only[Ub,go_sem,gj,gy,jM,cI,dZ,ft,lZ,ln,kZ,rl,ig,bJ,mM,nu,iR]|with_reducible first|refine aZ fun _=>?_|refine a1 ?_|fail)
  exact bI _ av _
 | some b =>
  have ab:=ay b az
  subst ab
  rw[az]at kZ
  simp only[na,O0]at kZ
  (repeat' first|simp only[Ub,go_sem,gj,gy,jM,cI,dZ,ft,lZ,ln,kZ,rl,ig,bJ,mM,nu,iR]|with_reducible first|refine aZ fun _=>?_|refine a1 ?_|fail)
  exact bI _ hg _
def hs(n:Nat):a9→Prop
 | .row _ es _=>dw (bV n) es=true
 | .map es=>es.all (fun dF=>cL (bV n) dF.2)=true
 | .loop _ env _ _ _ _ _=>dw (bV n) env=true
 | .gone=>True
theorem aln{n:Nat}{x:a9}(h:hs n x)(aY:aj):dk aY (bV n) x=some x:=by
 cases x with
 | row k es aG=>have h:dw (bV n) es=true:=h;simp only[dk,h,cQ]
 | map es=>have h:es.all (fun dF=>cL (bV n) dF.2)=true:=h;simp only[dk,h,cQ]
 | loop f env _ _ _ _ _=>have h:dw (bV n) env=true:=h;simp only[dk,h,cQ]
 | gone=>rfl
theorem Ch{n:Nat}{aY:aj}:∀ {H:aj},(∀ o∈H,hs n o)→b5 (dk aY (bV n)) H=some H:=by
 intro H
 induction H with
 | nil=>intro _;rfl
 | cons x H au=>intro af;simp only[b5,aln (af x (by simp)),au (fun o aC=>af o (by simp[aC]))]
theorem V8{h H Y:aj}{x:T}{Q:ah→aj→Prop}(ao:h.length=H.length)(af:∀ o∈H,hs H.length o)(aE:Q (.t x) H):yJ h Q (.t x) (H++Y):=by
 rw[ae1,ao]
 unfold iq
 by_cases hle:(H++Y).length≤H.length
 ·rw[a6 hle]
  have:Y=[]:=F1 (by simp at hle;omega)
  subst this
  rw[oj]
  exact aE
 ·rw[a2 hle,List.take_left,Ch af]
  exact aE
theorem K3{n m:Nat}(h:n≤m)(o:Nat)(aC:bV n o=false):bV m o=false:=by
 simp only[bV,oi]at aC ⊢
 omega
mutual
theorem Dp{n m:Nat}(h:n≤m):∀ {x:ah},cL (bV n) x=true→cL (bV m) x=true
 | .t _,_=>rfl
 | .ref o _ _ _,U=>by simp only[cL,pC]at U ⊢;exact K3 h o U
 | .ms o _ _ _ _ _,U=>by simp only[cL,pC]at U ⊢;exact K3 h o U
 | .mp o,U=>by simp only[cL,pC]at U ⊢;exact K3 h o U
 | .bF o,U=>by simp only[cL,pC]at U ⊢;exact K3 h o U
 | .dead,_=>rfl
 | .agg cs,U=>by simp only[cL]at U ⊢;exact zl h U
 | .ch cs,U=>by simp only[cL]at U ⊢;exact zl h U
 | .fn _ a b,U=>by simp only[cL,fe]at U ⊢;exact⟨zl h U.1,zl h U.2⟩
theorem zl{n m:Nat}(h:n≤m):∀ {l:List ah},dw (bV n) l=true→dw (bV m) l=true
 | [],_=>rfl
 | x::r,U=>by simp only[dw,fe]at U ⊢;exact⟨Dp h U.1,zl h U.2⟩
end
theorem GG{n m:Nat}(h:n≤m){x:a9}(U:hs n x):hs m x:=by
 cases x with
 | row k es aG=>exact zl h U
 | map es =>
  simp only[hs,jY]at U ⊢
  exact fun dF an=>Dp h (U dF an)
 | loop f env _ _ _ _ _=>exact zl h U
 | gone=>trivial
theorem XL(n:Nat)(l:List (jj × Bool)):hs n (.map (fk iJ iS l)):=by
 simp only[hs,jY,fk,nE]
 rintro dF ⟨q,_,rfl⟩
 rfl
structure sk(cq ca cr:a9)(cZ c9:ah)(X:aj):Prop where
 r:hs 5 cq∧hs 5 ca∧hs 5 cr
 cZ:cL (bV (X.length+5)) cZ=true
 c9:cL (bV (X.length+5)) c9=true
 x:∀ o∈X,hs (X.length+5) o
theorem sk.all{cq ca cr:a9}{cZ c9:ah}{X:aj}(h:sk cq ca cr cZ c9 X)(c1 c2:Bool)(p:b7)(bD:Int)(kn:List (jj × Bool))(fs:Nat):∀ o∈cE cq ca cr kn (iX c1 c2 p bD cZ c9) fs X,hs (cE cq ca cr kn (iX c1 c2 p bD cZ c9) fs X).length o:=by
 have ao:(cE cq ca cr kn (iX c1 c2 p bD cZ c9) fs X).length=X.length+5:=rfl
 rw[ao]
 intro o aC
 simp only[cE,iu]at aC
 have dC:5≤X.length+5:=by omega
 rcases aC with rfl|rfl|rfl|rfl|rfl|aC
 ·exact GG dC h.r.1
 ·exact GG dC h.r.2.1
 ·exact GG dC h.r.2.2
 ·exact XL _ _
 ·have aJ:bV (X.length+5) 3=false:=by simp only[bV,oi];omega
  simp only[hs,dw,cL,h.cZ,h.c9,aJ,uu,qT]
 ·exact h.x o aC
def xq(g:List Int)(cZ:ah)(X:aj):Prop:=g=[]∨∃(a:Nat) (es:List ah) (aG:Nat),cZ=.ms (a+5) es.length 0 g.length 1 false∧X[a]? = some (.row 1 es aG)∧aG≤es.length∧g.length≤es.length∧∀(j:Nat) v,g[j]? = some v→es[j]? = some (.t (I v))
def qJ(p:b7)(i x:Int):Nat→List Int→Int
 | _,[]=>if kj p i x i x=true then i else -1
 | j,y::r=>if kj p i x (j:Nat) y=true then(j:Nat)else qJ p i x (j+1) r
theorem awY(c1 c2:Bool)(p:b7)(h:jt p)(bD:Int)(cZ c9:ah)(fs:Nat)(ig:fs≤1)(cq ca cr:a9)(X:aj)(af:sk cq ca cr cZ c9 X)(kn:List (jj × Bool))(hg:kq p kn)(g:List Int)(ay:xq g cZ X)
  (eT:g.length<p.aK.length) (iD:∀(j:Nat) v,g[j]? = some v→0≤v∧v<240) (x:Int) (U:0≤x∧x<240) (bn aR:Nat) (aw:1000<aR) (Q:ah→aj→Prop)
  (bI:∀ eH,kq p eH→Q (.t (I (qJ p (g.length:Nat) x 0 g))) (cE cq ca cr eH (iX c1 c2 p bD cZ c9) fs X)) :
  ej (inl Tryz.prog pol (a0 Tryz.prog pol) aR (bn+2) (.fn 51) [.ref 4 1 0 0,.t (I (g.length:Nat)),.t (I x)] (cE cq ca cr kn (iX c1 c2 p bD cZ c9) fs X)) Q:=by
 have iG:=h.len
 refine lp aqA (bH rfl) ?_
 simp only[EB,go_sem]
 refine k4 g I (step:=fun j y (_:Unit)=>if kj p (g.length:Nat) x (j:Nat) y=true then dQ.out (some ((j:Nat):Int))else dQ.go ()) (fin:=fun _=>none)
  (St:=fun j _ e ai=>(e 0=.ref 4 1 0 0∧e 1=.t (I (g.length:Nat))∧e 2=.t (I x)∧e 8=.t (I (g.length:Nat))∧e 9=.t (I (j:Nat)))∧∃ kn,kq p kn∧ai=cE cq ca cr kn (iX c1 c2 p bD cZ c9) fs X)
  (Ex:=fun r q e ai=>((r=none∧q=.exit 0∧e 0=.ref 4 1 0 0∧e 1=.t (I (g.length:Nat))∧e 2=.t (I x))∨∃ j,r=some j∧q=.ret∧e 6=.t (I j))∧∃ kn,kq p kn∧ai=cE cq ca cr kn (iX c1 c2 p bD cZ c9) fs X) (s:=()) (by omega) ?_ ?_ (by omega) ?_ ?_
 ·intro j y _ e ai Y R hm aU ar bx aB hw ⟨⟨bE,s1,s2,dG,cM⟩,kn,hg,aY⟩ an
  subst aY
  rcases ay with rfl|⟨a,es,aG,rfl,fa,bN,nj,iB⟩
  ·simp at aU
  have he:=iB j y ar
  have rf:j<es.length:=by omega
  have ey:=@XK c1 c2 p h bD (.ms (a+5) es.length 0 g.length 1 false) c9 fs ig cq ca cr X kn hg (g.length:Nat) x (j:Nat) y (by omega) U (by omega) (iD j y ar) (by omega) bn aR
  generalize kj p (g.length:Nat) x (j:Nat) y=z at *
  simp only[cE]at ey an ⊢
  (repeat' first|simp only[My,EC,go_sem,bE,s1,s2,dG,cM,aB,hw,ig,fa,bN,aU,rf,he]|with_reducible first|refine aZ fun _=>?_|refine a1 ?_|fail)
  with_reducible refine ey _ ?_
  intro eH h4 row
  refine V8 rfl (af.all c1 c2 p bD eH fs) ?_
  cases z
  ·simp only[fJ,et,g6]at an
   simp only[My,EC,go_sem,bE,s1,s2,dG,cM,hw,cE]
   all_goals(refine an _ _ ⟨?_,eH,h4,rfl⟩;simp only[go_sem,bE,s1,s2,dG,cM,hw])
  ·simp only[cQ,lg]at an
   simp only[My,EC,go_sem,bE,s1,s2,dG,cM,hw,cE]
   all_goals(refine an _ _ _ ⟨.inr ⟨_,rfl,rfl,?_⟩,eH,h4,rfl⟩;simp only[go_sem])
 ·intro _ e ai Y R aB ⟨⟨bE,s1,s2,dG,cM⟩,kn,hg,aY⟩ an
  subst aY
  simp only[My,EC,go_sem,bE,s1,s2,dG,cM,aB]
  all_goals(refine an _ _ _ ⟨.inl ⟨rfl,rfl,?_⟩,kn,hg,rfl⟩;simp only[go_sem,bE,s1,s2])
 ·refine⟨?_,kn,hg,rfl⟩
  simp only[go_sem]
 ·rintro q e ai ⟨aE,kn,hg,rfl⟩
  have aI:∀(l:List Int) (j:Nat),(match gJ (fun j y (_:Unit)=>if kj p (g.length:Nat) x ((j:Nat):Int) y=true then dQ.out (some ((j:Nat):Int))else dQ.go ()) (fun _=>none) j l ()with|some j=>j|none=>if kj p (g.length:Nat) x (g.length:Nat) x=true then((g.length:Nat):Int)else -1)=qJ p (g.length:Nat) x j l:=by
   intro l
   induction l with
   | nil=>intro j;rfl
   | cons y l au =>
    intro j
    rw[qJ]
    by_cases af:kj p (g.length:Nat) x (j:Nat) y=true
    ·rw[q3 (r:=some ((j:Nat):Int)) (by rw[a6 af]),a6 af]
    ·rw[ng (s':=()) (by rw[a2 af]),au,a2 af]
  rw[← aI g 0]at bI
  rcases aE with⟨al,rfl,bE,s1,s2⟩|⟨j,al,rfl,bt⟩
  ·rw[al]at bI
   simp only at bI
   have ey:=@XK c1 c2 p h bD cZ c9 fs ig cq ca cr X kn hg (g.length:Nat) x (g.length:Nat) x (by omega) U (by omega) U (by omega) bn aR
   generalize kj p (g.length:Nat) x (g.length:Nat) x=z at *
   simp only[cE]at ey ⊢
   simp only[EB,go_sem,bE,s1,s2]
   with_reducible refine ey _ ?_
   intro eH h4 row
   refine V8 rfl (af.all c1 c2 p bD eH fs) ?_
   cases z
   ·simp only[EB,go_sem,bE,s1,s2,cE]
    all_goals exact bI eH h4
   ·simp only[EB,go_sem,bE,s1,s2,cE]
    all_goals exact bI eH h4
  ·rw[al]at bI
   simp only at bI
   simp only[EB,go_sem,bt]
   all_goals exact bI kn hg
structure eK where
 ec:Int
 jH:Int
 dX:Int
 jg:Int
 deriving DecidableEq
abbrev hq(a:eK):T:=.agg [I a.ec,I a.jH,I a.dX,I a.jg]
section
variable(c1 c2:Bool)(p:b7)(bD:Int)(cZ:ah)(fs:Nat)(ig:fs≤1)(cq ca cr:a9)(X:aj)(kn:List (jj × Bool))(op:Nat)(es:List ah)(aG:Nat)(fa:X[op]? = some (.row 2 es aG))(bN:aG≤es.length)(at_:Nat)(iU:at_<es.length)(a:eK)(s:Int)(bn aR:Nat)(Q:ah→aj→Prop)
include ig fa bN iU
theorem add_nil(he:es[at_]? = some (.t (.agg [I s,.aA (.slice none 0 0)])))
  (bI:Q (.t (.ch [])) (cE cq ca cr kn (iX c1 c2 p bD cZ (.ms (op+5) es.length 0 es.length 2 false)) fs ((X++[a9.row 4 [.t (hq a)] 0]).set op (.row 2 (es.set at_ (.agg [.t (I s),.ms (X.length+5) 1 0 1 4 false])) es.length)))) :
  ej (inl Tryz.prog pol (a0 Tryz.prog pol) aR (bn+1) (.fn 52) [.ref 4 1 0 0,.t (I (at_:Nat)),.t (hq a)] (cE cq ca cr kn (iX c1 c2 p bD cZ (.ms (op+5) es.length 0 es.length 2 false)) fs X)) Q:=by
 have aC:op<X.length:=(cD.1 fa).1
 have DT:∀ Y,(X++Y)[op]? = some (.row 2 es aG):=fun Y=>by rw[fv aC];exact fa
 obtain⟨cJ,cU,dU,gA⟩:=a
 have p0:32≤eQ:=by unfold eQ;omega
 refine lp TL (bH rfl) ?_
 simp only[cE]at bI ⊢
 (repeat' first|simp only[Iz,go_sem,ig,fa,DT,bN,iU,he,p0]|with_reducible first|refine aZ fun _=>?_|refine a1 ?_|fail)
 refine⟨by omega,by simp,?_,bI⟩
 simp[nO,r9,vA]
theorem agH(e1:List eK)(b:eK)(o:Nat)(m:Nat)(hm:m≤(e1++[b]).length)(ao:e1.length<1000)(me:X[o]? = some (.row 4 (((e1++[b]).map hq).map .t) m))(he:es[at_]? = some (.agg [.t (I s),.ms (o+5) (e1++[b]).length 0 (e1++[b]).length 4 false]))(ab:0≤a.dX)(iT:b.dX=a.dX)
  (bI:Q (.t (.ch [])) (cE cq ca cr kn (iX c1 c2 p bD cZ (.ms (op+5) es.length 0 es.length 2 false)) fs (X.set o (.row 4 (((e1++[{ b with jH:=a.jH }]).map hq).map .t) (e1++[b]).length)))) :
  ej (inl Tryz.prog pol (a0 Tryz.prog pol) aR (bn+1) (.fn 52) [.ref 4 1 0 0,.t (I (at_:Nat)),.t (hq a)] (cE cq ca cr kn (iX c1 c2 p bD cZ (.ms (op+5) es.length 0 es.length 2 false)) fs X)) Q:=by
 obtain⟨cJ,cU,dU,gA⟩:=a
 obtain⟨cN,db,eG,nb⟩:=b
 simp only at ab iT bI
 subst iT
 have d1:decide ((0:Int)<((e1.length+1:Nat):Int))=true:=bY (by omega)
 have d2:decide ((0:Int)≤eG)=true:=bY ab
 have d3:decide (eG=eG)=true:=bY rfl
 have w:IntKind.i64.wrap (((e1.length+1:Nat):Int)-1)=((e1.length:Nat):Int):=by rw[wrap_i64 (by omega) (by omega)];omega
 have hlen:(e1++[(⟨cN,db,eG,nb⟩:eK)]).length=e1.length+1:=by simp
 have nj:(((e1++[(⟨cN,db,eG,nb⟩:eK)]).map hq).map ah.t)[e1.length]? = some (.t (.agg [I cN,I db,I eG,I nb])):=by simp
 have R8:(((e1++[(⟨cN,db,eG,nb⟩:eK)]).map hq).map ah.t).set e1.length (.t (.agg [I cN,I cU,I eG,I nb]))=((e1++[(⟨cN,cU,eG,nb⟩:eK)]).map hq).map ah.t:=by simp[uz]
 have hle:(((e1++[(⟨cN,db,eG,nb⟩:eK)]).map hq).map ah.t).length=e1.length+1:=by simp
 rw[hlen]at hm he bI
 generalize (((e1++[(⟨cN,db,eG,nb⟩:eK)]).map hq).map ah.t)=L at *
 have aB:e1.length<e1.length+1:=by omega
 refine lp TL (bH rfl) ?_
 simp only[cE]at bI ⊢
 (repeat' first|simp only[Iz,go_sem,ig,fa,bN,iU,he,d1,d2,d3,w,hm,me,nj,R8,hle,aB]|with_reducible first|refine aZ fun _=>?_|refine a1 ?_|fail)
 all_goals exact bI
theorem agJ(e1:List eK)(b:eK)(o:Nat)(m:Nat)(hm:m≤(e1++[b]).length)(ao:e1.length<1000)(me:X[o]? = some (.row 4 (((e1++[b]).map hq).map .t) m))(BG:o≠op)(he:es[at_]? = some (.agg [.t (I s),.ms (o+5) (e1++[b]).length 0 (e1++[b]).length 4 false]))(iT:¬ (0≤a.dX∧b.dX=a.dX))
  (bI:Q (.t (.ch [])) (cE cq ca cr kn (iX c1 c2 p bD cZ (.ms (op+5) es.length 0 es.length 2 false)) fs ((X.set o (.row 4 (((e1++[b,a]).map hq).map .t) m)).set op (.row 2 (es.set at_ (.agg [.t (I s),.ms (o+5) (e1++[b,a]).length 0 (e1++[b,a]).length 4 false])) es.length)))) :
  ej (inl Tryz.prog pol (a0 Tryz.prog pol) aR (bn+1) (.fn 52) [.ref 4 1 0 0,.t (I (at_:Nat)),.t (hq a)] (cE cq ca cr kn (iX c1 c2 p bD cZ (.ms (op+5) es.length 0 es.length 2 false)) fs X)) Q:=by
 obtain⟨cJ,cU,dU,gA⟩:=a
 obtain⟨cN,db,eG,nb⟩:=b
 simp only at iT
 have d1:decide ((0:Int)<((e1.length+1:Nat):Int))=true:=bY (by omega)
 have w:IntKind.i64.wrap (((e1.length+1:Nat):Int)-1)=((e1.length:Nat):Int):=by rw[wrap_i64 (by omega) (by omega)];omega
 have hlen:(e1++[(⟨cN,db,eG,nb⟩:eK)]).length=e1.length+1:=by simp
 have nj:(((e1++[(⟨cN,db,eG,nb⟩:eK)]).map hq).map ah.t)[e1.length]? = some (.t (.agg [I cN,I db,I eG,I nb])):=by simp
 have mf:(((e1++[(⟨cN,db,eG,nb⟩:eK)]).map hq).map ah.t)++[.t (.agg [I cJ,I cU,I dU,I gA])]=((e1++[(⟨cN,db,eG,nb⟩:eK),⟨cJ,cU,dU,gA⟩]).map hq).map ah.t:=by simp
 have hle:(((e1++[(⟨cN,db,eG,nb⟩:eK)]).map hq).map ah.t).length=e1.length+1:=by simp
 have D3:(e1++[(⟨cN,db,eG,nb⟩:eK),⟨cJ,cU,dU,gA⟩]).length=e1.length+1+1:=by simp
 rw[hlen]at hm he
 rw[D3]at bI
 rw[← mf]at bI
 generalize (((e1++[(⟨cN,db,eG,nb⟩:eK)]).map hq).map ah.t)=L at *
 have aB:e1.length<e1.length+1:=by omega
 have p0:(e1.length+1+1)*32≤eQ:=by unfold eQ;omega
 have aCp:¬ o=op:=BG
 have DT:∀ y,(X.set o y)[op]? = some (.row 2 es aG):=fun y=>by rw[iv BG];exact fa
 generalize qg:decide ((0:Int)≤dU)=d2
 generalize Hl:decide (eG=dU)=d3
 refine lp TL (bH rfl) ?_
 simp only[cE]at bI ⊢
 cases d2
 ·(repeat' first|simp only[Iz,go_sem,ig,fa,DT,bN,iU,he,d1,qg,w,hm,me,hle,aB,p0]|with_reducible first|refine aZ fun _=>?_|refine a1 ?_|fail)
  refine⟨by simp,by simp,?_,bI⟩
  simp[nO,r9]
 ·cases d3
  ·(repeat' first|simp only[Iz,go_sem,ig,fa,DT,bN,iU,he,d1,qg,Hl,w,hm,me,nj,hle,aB,p0]|with_reducible first|refine aZ fun _=>?_|refine a1 ?_|fail)
   refine⟨by simp,by simp,?_,bI⟩
   simp[nO,r9]
  ·exact absurd ⟨ka qg,ka Hl⟩ iT
end
end Go.Proofs.YtogagakgmbkonaaGreat
namespace Go.Proofs.YtogagakgmbkonaaGreat
open Go Go.Abs
structure c3 where
 str:Int
 bM:List eK
def js(l:List eK)(a:eK):List eK:=match l.getLast? with
 | some b=>if 0≤a.dX∧b.dX=a.dX then l.dropLast++[{ b with jH:=a.jH }]else l++[a]
 | none=>[a]
def kQ(aH:List c3)(i:Nat)(a:eK):List c3:=match aH[i]? with
 | some c=>aH.set i { c with bM:=js c.bM a }
 | none=>aH
theorem ke(aH:List c3)(i:Nat)(a:eK):(kQ aH i a).length=aH.length:=by
 unfold kQ
 split<;>simp
def xi(br:c3)(o:Nat):ah:=if br.bM=[]then .t (.agg [I br.str,.aA (.slice none 0 0)])else .agg [.t (I br.str),.ms (o+5) br.bM.length 0 br.bM.length 4 false]
def ft:List c3→Nat
 | []=>0
 | c::r=>(if c.bM=[]then 0 else 1)+ft r
theorem aud(aH:List c3):ft aH≤aH.length:=by
 induction aH with
 | nil=>simp[ft]
 | cons c r au=>rw[ft,jc];split<;>omega
theorem auc(a b:List c3):ft (a++b)=ft a+ft b:=by
 induction a with
 | nil=>simp[ft]
 | cons c r au=>rw[dS,ft,ft,au];omega
theorem U7{aH:List c3}{i:Nat}{c c':c3}(h:aH[i]? = some c)(af:c'.bM≠[]):ft (aH.set i c')=ft aH+if c.bM=[]then 1 else 0:=by
 induction aH generalizing i with
 | nil=>simp at h
 | cons x r au =>
  cases i with
  | zero =>
   simp only[lG,Option.some.injEq]at h
   subst h
   rw[AO,ft,ft,a2 af]
   split<;>omega
  | succ i =>
   simp only[pA]at h
   rw[w8,ft,ft,au h]
   omega
structure px(b:Nat)(aH:List c3)(c9:ah)(op:Nat)(loc:Nat→Nat)(X:aj):Prop where
 c9:c9=.ms (op+5) aH.length 0 aH.length 2 false
 row:∃ es aG,X[op]? = some (.row 2 es aG)∧aG≤es.length∧es.length=aH.length∧∀(c:Nat) br,aH[c]? = some br→es[c]? = some (xi br (loc c))
 arm:∀(c:Nat) br,aH[c]? = some br→br.bM≠[]→∃ m,m≤br.bM.length∧X[loc c]? = some (.row 4 ((br.bM.map hq).map .t) m)
 inj:∀(c c':Nat) br Dx,aH[c]? = some br→aH[c']? = some Dx→br.bM≠[]→Dx.bM≠[]→loc c=loc c'→c=c'
 len:X.length=b+ft aH
 aBx:∀ br∈aH,br.bM.length≤240
def UE(X cw:aj):Prop:=∀(q:Nat) es aG,X[q]? = some (.row 1 es aG)→cw[q]? = some (.row 1 es aG)
theorem Pw{q:Nat→Bool}{x:ah}(U:cL q x=true):∀ {l:List ah} {i:Nat},dw q l=true→dw q (l.set i x)=true
 | [],_,_=>rfl
 | y::r,0,h=>by simp only[dw,AO,fe]at h ⊢;exact⟨U,h.2⟩
 | y::r,i+1,h=>by simp only[dw,w8,fe]at h ⊢;exact⟨h.1,Pw U h.2⟩
theorem zk(q:Nat→Bool)(l:List T):dw q (l.map .t)=true:=by
 induction l with
 | nil=>rfl
 | cons x l au=>simp only[gz,dw,cL,au,uu]
theorem mem_set{α:Type}{l:List α}{i:Nat}{x y:α}(h:y∈l.set i x):y=x∨y∈l:=by
 rcases JV h with h|h
 ·exact .inr h
 ·exact .inl h
theorem Cb(l:List eK)(a:eK):js l a≠[]:=by
 unfold js
 split
 ·split<;>simp
 ·simp
theorem Uw(l:List eK)(a:eK):(js l a).length≤l.length+1:=by
 unfold js
 split
 ·split
  ·simp
  ·simp
 ·simp
section
variable(c1 c2:Bool)(p:b7)(bD:Int)(cZ c9:ah)(fs:Nat)(ig:fs≤1)(cq ca cr:a9)(X:aj)(kn:List (jj × Bool))(b op:Nat)(aH:List c3)(loc:Nat→Nat)(eB:px b aH c9 op loc X)(af:sk cq ca cr cZ c9 X)(i:Nat)(br:c3)(hi:aH[i]? = some br)(tq:br.bM.length<240)(a:eK)(bn aR:Nat)(Q:ah→aj→Prop)
include ig eB af hi tq
theorem Pn(bI:∀ cw wi,px b (kQ aH i a) c9 op wi cw→sk cq ca cr cZ c9 cw→UE X cw→Q (.t (.ch [])) (cE cq ca cr kn (iX c1 c2 p bD cZ c9) fs cw)) :
  ej (inl Tryz.prog pol (a0 Tryz.prog pol) aR (bn+1) (.fn 52) [.ref 4 1 0 0,.t (I (i:Nat)),.t (hq a)] (cE cq ca cr kn (iX c1 c2 p bD cZ c9) fs X)) Q:=by
 obtain⟨kI,⟨es,aG,fa,bN,jl,iB⟩,vQ,Bv,hlen,ie⟩:=eB
 have aB:i<aH.length:=(cD.1 hi).1
 have aN:op<X.length:=(cD.1 fa).1
 have he:=iB i br hi
 have hI:kQ aH i a=aH.set i { br with bM:=js br.bM a }:=by unfold kQ;rw[hi]
 have Q0:∀ c∈kQ aH i a,c.bM.length≤240:=fun c zv=>by
  rw[hI]at zv
  rcases mem_set zv with rfl|zv
  ·have:=Uw br.bM a;show(js br.bM a).length≤240;omega
  ·exact ie c zv
 have bx:∀(c:Nat) x,(aH.set i { br with bM:=js br.bM a })[c]? = some x→(c=i∧x={ br with bM:=js br.bM a })∨(c≠i∧aH[c]? = some x):=fun c x U=>by
  rw[oO]at U
  split at U
  ·rename_i ad
   subst ad
   cases U
   exact .inl ⟨rfl,rfl⟩
  ·rename_i ad
   exact .inr ⟨fun h=>ad h.symm,U⟩
 have lR:dw (bV (X.length+5)) es=true:=af.x _ (gp fa)
 rw[← jl]at kI
 by_cases bl:br.bM=[]
 · -- yI first arm
  have aU:js br.bM a=[a]:=by rw[bl];rfl
  rw[xi,a6 bl]at he
  subst kI
  refine add_nil c1 c2 p bD cZ fs ig cq ca cr X kn op es aG fa bN i (by omega) a br.str bn aR Q he ?_
  have eC:((X++[a9.row 4 [.t (hq a)] 0]).set op (.row 2 (es.set i (.agg [.t (I br.str),.ms (X.length+5) 1 0 1 4 false])) es.length)).length=X.length+1:=by simp
  refine bI _ (fun c=>if c=i then X.length else loc c) ⟨by rw[ke,← jl],⟨_,_,by rw[l7 (by simp;omega)],by simp,by rw[ke];simpa using jl,fun c x U=>?_⟩,fun c x U aw=>?_,fun c c' x eX U dM aw ll gk=>?_,?_,Q0⟩ ⟨af.r,?_,?_,fun o aC=>?_⟩ (fun q gI oD aE=>?_)
  ·rw[hI]at U
   rcases bx c x U with⟨rfl,rfl⟩|⟨eo,U⟩
   ·rw[l7 (by omega),xi,a2 (Cb _ _),a6 rfl]
    simp only[aU,jc,lF,nD]
   ·rw[iv (fun h=>eo h.symm),a2 eo]
    exact iB c x U
  ·rw[hI]at U
   rcases bx c x U with⟨rfl,rfl⟩|⟨eo,U⟩
   ·refine⟨0,uv _,?_⟩
    rw[a6 rfl,iv (by omega),g5 (bP _)]
    simp[aU]
   ·obtain⟨m,ad,ag⟩:=vQ c x U aw
    refine⟨m,ad,?_⟩
    rw[a2 eo]
    have Hs:loc c<X.length:=(cD.1 ag).1
    have fg:op≠loc c:=fun h=>by rw[← h,fa]at ag;cases ag
    rw[iv fg,fv Hs]
    exact ag
  ·rw[hI]at U dM
   rcases bx c x U with⟨rfl,rfl⟩|⟨eo,U⟩<;>rcases bx c' eX dM with⟨ad,rfl⟩|⟨xQ,dM⟩
   ·exact ad.symm
   ·rw[a6 rfl,a2 xQ]at gk
    obtain⟨m,_,ag⟩:=vQ c' eX dM ll
    have:=(cD.1 ag).1
    omega
   ·rw[a2 eo,a6 ad]at gk
    obtain⟨m,_,ag⟩:=vQ c x U aw
    have:=(cD.1 ag).1
    omega
   ·rw[a2 eo,a2 xQ]at gk
    exact Bv c c' x eX U dM aw ll gk
  ·rw[eC,hI,U7 hi (Cb _ _),a6 bl,hlen];omega
  ·rw[eC];exact Dp (by omega) af.cZ
  ·rw[eC];exact Dp (by omega) af.c9
  ·rw[eC]
   rcases mem_set aC with rfl|aC
   ·refine Pw ?_ (zl (by omega) lR)
    simp only[cL,dw,bV,Ki,ur,pC,oi]
    omega
   ·rcases hp.1 aC with aC|aC
    ·exact GG (by omega) (af.x o aC)
    ·simp only[iu,mG,mE]at aC
     subst aC
     rfl
  ·have h6:q<X.length:=(cD.1 aE).1
   have fg:op≠q:=fun h=>by rw[← h,fa]at aE;cases aE
   rw[iv fg,fv h6]
   exact aE
 ·obtain⟨m,hm,me⟩:=vQ i br hi bl
  obtain⟨e1,l,Lf⟩:∃ e1 l,br.bM=e1++[l]:=⟨br.bM.dropLast,br.bM.getLast bl,(WS bl).symm⟩
  rw[xi,a2 bl,Lf]at he
  rw[Lf]at hm me tq
  subst kI
  have lO:loc i<X.length:=(cD.1 me).1
  have fg:loc i≠op:=fun h=>by rw[h,fa]at me;cases me
  have rh:∀(c:Nat) x,c≠i→aH[c]? = some x→x.bM≠[]→loc c≠loc i:=fun c x eo U aw h=>eo (Bv c i x br U hi aw bl h)
  have Y5:e1.length<1000:=by simp at tq;omega
  by_cases iT:0≤a.dX∧l.dX=a.dX
  · -- aCB
   have aU:js br.bM a=e1++[{ l with jH:=a.jH }]:=by
    unfold js
    rw[Lf,List.getLast?_append]
    simp only[W0,Option.some_or,a6 iT,List.dropLast_concat]
   refine agH c1 c2 p bD cZ fs ig cq ca cr X kn op es aG fa bN i (by omega) a br.str bn aR Q e1 l (loc i) m hm Y5 me he iT.1 iT.2 ?_
   have eC:(X.set (loc i) (.row 4 (((e1++[{ l with jH:=a.jH }]).map hq).map .t) (e1++[l]).length)).length=X.length:=by simp
   refine bI _ loc ⟨by rw[ke,← jl],⟨es,aG,by rw[iv fg];exact fa,bN,by rw[ke];exact jl,fun c x U=>?_⟩,fun c x U aw=>?_,fun c c' x eX U dM aw ll gk=>?_,?_,Q0⟩ ⟨af.r,by rw[eC];exact af.cZ,by rw[eC];exact af.c9,fun o aC=>?_⟩ (fun q gI oD aE=>?_)
   ·rw[hI]at U
    rcases bx c x U with⟨rfl,rfl⟩|⟨eo,U⟩
    ·rw[xi,a2 (Cb _ _),he]
     simp only[aU,gT,jc,lF]
    ·exact iB c x U
   ·rw[hI]at U
    rcases bx c x U with⟨rfl,rfl⟩|⟨eo,U⟩
    ·refine⟨(e1++[l]).length,by show _≤(js br.bM a).length;rw[aU];simp,?_⟩
     rw[l7 lO]
     show _=some (a9.row 4 (((js br.bM a).map hq).map .t) _)
     rw[aU]
    ·obtain⟨m',ad,ag⟩:=vQ c x U aw
     exact⟨m',ad,by rw[iv (fun h=>rh c x eo U aw h.symm)];exact ag⟩
   ·rw[hI]at U dM
    rcases bx c x U with⟨rfl,rfl⟩|⟨eo,U⟩<;>rcases bx c' eX dM with⟨ad,rfl⟩|⟨xQ,dM⟩
    ·exact ad.symm
    ·exact absurd gk.symm (rh c' eX xQ dM ll)
    ·rw[ad]at gk;exact absurd gk (rh c x eo U aw)
    ·exact Bv c c' x eX U dM aw ll gk
   ·rw[eC,hI,U7 hi (Cb _ _),a2 bl,hlen,s0]
   ·rw[eC]
    rcases mem_set aC with rfl|aC
    ·exact zk _ _
    ·exact af.x o aC
   ·have RN:loc i≠q:=fun h=>by rw[← h,me]at aE;cases aE
    rw[iv RN]
    exact aE
  · -- put behind
   have aU:js br.bM a=e1++[l,a]:=by
    unfold js
    rw[Lf,List.getLast?_append]
    simp only[W0,Option.some_or,a2 iT,fU,dS,ea]
   refine agJ c1 c2 p bD cZ fs ig cq ca cr X kn op es aG fa bN i (by omega) a br.str bn aR Q e1 l (loc i) m hm Y5 me fg he iT ?_
   have eC:((X.set (loc i) (.row 4 (((e1++[l,a]).map hq).map .t) m)).set op (.row 2 (es.set i (.agg [.t (I br.str),.ms (loc i+5) (e1++[l,a]).length 0 (e1++[l,a]).length 4 false])) es.length)).length=X.length:=by simp
   refine bI _ loc ⟨by rw[ke,← jl],⟨_,_,by rw[l7 (by simp;omega)],by simp,by rw[ke];simpa using jl,fun c x U=>?_⟩,fun c x U aw=>?_,fun c c' x eX U dM aw ll gk=>?_,?_,Q0⟩ ⟨af.r,by rw[eC];exact af.cZ,by rw[eC];exact af.c9,fun o aC=>?_⟩ (fun q gI oD aE=>?_)
   ·rw[hI]at U
    rcases bx c x U with⟨rfl,rfl⟩|⟨eo,U⟩
    ·rw[l7 (by omega),xi,a2 (Cb _ _)]
     simp only[aU]
    ·rw[iv (fun h=>eo h.symm)]
     exact iB c x U
   ·rw[hI]at U
    rcases bx c x U with⟨rfl,rfl⟩|⟨eo,U⟩
    ·refine⟨m,by show _≤(js br.bM a).length;rw[aU];simp at hm ⊢;omega,?_⟩
     rw[iv (fun h=>fg h.symm),l7 lO]
     show _=some (a9.row 4 (((js br.bM a).map hq).map .t) _)
     rw[aU]
    ·obtain⟨m',ad,ag⟩:=vQ c x U aw
     have RO:op≠loc c:=fun h=>by rw[← h,fa]at ag;cases ag
     exact⟨m',ad,by rw[iv RO,iv (fun h=>rh c x eo U aw h.symm)];exact ag⟩
   ·rw[hI]at U dM
    rcases bx c x U with⟨rfl,rfl⟩|⟨eo,U⟩<;>rcases bx c' eX dM with⟨ad,rfl⟩|⟨xQ,dM⟩
    ·exact ad.symm
    ·exact absurd gk.symm (rh c' eX xQ dM ll)
    ·rw[ad]at gk;exact absurd gk (rh c x eo U aw)
    ·exact Bv c c' x eX U dM aw ll gk
   ·rw[eC,hI,U7 hi (Cb _ _),a2 bl,hlen,s0]
   ·rw[eC]
    rcases mem_set aC with rfl|aC
    ·refine Pw ?_ lR
     simp only[cL,dw,bV,Ki,ur,pC,oi]
     omega
    ·rcases mem_set aC with rfl|aC
     ·exact zk _ _
     ·exact af.x o aC
   ·have RN:loc i≠q:=fun h=>by rw[← h,me]at aE;cases aE
    have RO:op≠q:=fun h=>by rw[← h,fa]at aE;cases aE
    rw[iv RO,iv RN]
    exact aE
end
end Go.Proofs.YtogagakgmbkonaaGreat
namespace Go.Proofs.YtogagakgmbkonaaGreat
open Go Go.Abs
inductive hU where
 | lq
 | yes (g:List Int) (aH:List c3)
 | no (aH:List c3)
def ep(p:b7)(last:Bool)(rec:List Int→List c3→hU)(at_:Nat)(g:List Int)(x:Nat)(aH:List c3):dQ (List c3) hU :=
 if qJ p (g.length:Nat) (x:Nat) 0 g = -1 then
  if last=true then .out (.yes (g++[((x:Nat):Int)]) aH)else match rec (g++[((x:Nat):Int)]) aH with
   | .no b8=>.go (kQ b8 at_ ⟨(x:Nat),(x+1:Nat),-1,(aH.length:Nat)⟩)
   | r=>.out r
 else .go (kQ aH at_ ⟨(x:Nat),(x+1:Nat),qJ p (g.length:Nat) (x:Nat) 0 g,0⟩)
def hb(p:b7)(g:List Int):Nat:=if g=[]then 1 else(bT p (g.length:Nat)).toNat
def DG(p:b7)(g:List Int)(at_:Nat):hU→hU
 | .no aH=>.no (if((hb p g:Nat):Int)<bT p (g.length:Nat)then kQ aH at_ ⟨(hb p g:Nat),bT p (g.length:Nat),-2,0⟩else aH)
 | r=>r
def fx(p:b7)(bD:Nat):Nat→List Int→List c3→hU
 | 0,_,_=>.lq
 | k+1,g,aH=>if bD<aH.length then .lq else
  DG p g aH.length (gJ (fun x (_:Unit) b8=>ep p (decide (k=0)) (fx p bD k) aH.length g x b8) hU.no 0 (List.replicate (hb p g) ()) (aH++[⟨(g.length:Nat),[]⟩]))
theorem GV{step:Nat→List c3→dQ (List c3) hU}{N:Nat}(Inv:Nat→List c3→Prop)(ad:∀ x aH b8,x<N→Inv x aH→step x aH=.go b8→Inv (x+1) b8)(ag:∀ x aH r,step x aH=.out r→∀ q,r≠.no q){Vr:List c3} :
  ∀(m x:Nat) (aH:List c3),x+m=N→Inv x aH→gJ (fun x (_:Unit) s=>step x s) hU.no x (List.replicate m ()) aH=.no Vr→Inv N Vr:=by
 intro m
 induction m with
 | zero =>
  intro x aH U hi aI
  simp only[Gd,ak4,hU.no.injEq]at aI
  subst aI
  rw[← U];exact hi
 | succ m au =>
  intro x aH U hi aI
  rw[pB]at aI
  cases J:step x aH with
  | go b8 =>
   rw[ng (s':=b8) J]at aI
   exact au (x+1) b8 (by omega) (ad x aH b8 (by omega) hi J) aI
  | out r =>
   rw[q3 (r:=r) J]at aI
   exact absurd aI (ag x aH r J Vr)
theorem JA{p:b7}{last:Bool}{rec:List Int→List c3→hU}{at_:Nat}{g:List Int}{x:Nat}{aH:List c3}{r:hU}(h:ep p last rec at_ g x aH=.out r):∀ q,r≠.no q:=by
 intro q aE
 unfold ep at h
 split at h
 ·split at h
  ·cases h;cases aE
  ·split at h
   ·cases h
   ·rename_i al
    simp only[dQ.out.injEq]at h
    exact al q (h.trans aE)
 ·cases h
theorem A0{aH:List c3}{i c:Nat}{a:eK}(h:c≠i):(kQ aH i a)[c]? = aH[c]?:=by
 unfold kQ
 split
 ·rw[iv (fun e=>h e.symm)]
 ·rfl
theorem Di{aH:List c3}{i:Nat}{a:eK}{c:c3}(h:aH[i]? = some c):(kQ aH i a)[i]? = some { c with bM:=js c.bM a }:=by
 unfold kQ
 rw[h]
 simp only
 rw[l7 (cD.1 h).1]
theorem KN(p:b7)(bD:Nat):∀(k:Nat) (g:List Int) (aH b8:List c3),fx p bD k g aH=.no b8→aH.length<b8.length∧∀ c,c<aH.length→b8[c]? = aH[c]?:=by
 intro k
 induction k with
 | zero=>intro g aH b8 h;cases h
 | succ k au =>
  intro g aH b8 h
  rw[fx]at h
  split at h
  ·cases h
  ·generalize eA:gJ (fun x (_:Unit) b8=>ep p (decide (k=0)) (fx p bD k) aH.length g x b8) hU.no 0 (List.replicate (hb p g) ()) (aH++[⟨(g.length:Nat),[]⟩])=F at h
   cases F with
   | lq=>cases h
   | yes hX q=>cases h
   | no q =>
    have bK:=GV (step:=fun x b8=>ep p (decide (k=0)) (fx p bD k) aH.length g x b8) (N:=hb p g) (fun _ q=>aH.length<q.length∧∀ c,c<aH.length→q[c]? = aH[c]?)
     (fun x q ju _ hi J=>by
      simp only[ep]at J
      split at J
      ·split at J
       ·cases J
       ·split at J
        ·rename_i a3 al
         cases J
         obtain⟨uY,ry⟩:=au _ _ _ al
         refine⟨by rw[ke];omega,fun c af=>?_⟩
         rw[A0 (by omega),ry c (by omega)]
         exact hi.2 c af
        ·cases J
      ·cases J
       refine⟨by rw[ke];exact hi.1,fun c af=>?_⟩
       rw[A0 (by omega)]
       exact hi.2 c af) (fun x q r J=>JA J) _ 0 _ (by omega) ⟨by simp,fun c af=>by rw[fv af]⟩ eA
    simp only[DG,hU.no.injEq]at h
    subst h
    split
    ·refine⟨by rw[ke];exact bK.1,fun c af=>?_⟩
     rw[A0 (by omega)]
     exact bK.2 c af
    ·exact bK
end Go.Proofs.YtogagakgmbkonaaGreat
namespace Go.Proofs.YtogagakgmbkonaaGreat
open Go Go.Abs
theorem px.set{b:Nat}{aH:List c3}{c9:ah}{op:Nat}{loc:Nat→Nat}{X:aj}(h:px b aH c9 op loc X){a:Nat}{es gI:List ah}{aG oD:Nat}(ae:X[a]? = some (.row 1 es aG)):px b aH c9 op loc (X.set a (.row 1 gI oD)):=by
 obtain⟨ad,⟨q0,gR,ag,aJ,bL,dC⟩,fQ,hP,mO,vO⟩:=h
 have fg:∀ {q:Nat} {k:Nat} {es:List ah} {m:Nat},X[q]? = some (.row k es m)→k≠1→a≠q:=fun aE an he=>by rw[← he,ae]at aE;cases aE;exact an rfl
 refine⟨ad,⟨q0,gR,by rw[iv (fg ag (by omega))];exact ag,aJ,bL,dC⟩,fun c br af aw=>?_,hP,by rw[uA];exact mO,vO⟩
 obtain⟨m,a3,a7⟩:=fQ c br af aw
 exact⟨m,a3,by rw[iv (fg a7 (by omega))];exact a7⟩
theorem px.more{b:Nat}{aH:List c3}{c9:ah}{op:Nat}{loc:Nat→Nat}{X:aj}(h:px b aH c9 op loc X)(x:a9):px (b+1) aH c9 op loc (X++[x]):=by
 obtain⟨ad,⟨q0,gR,ag,aJ,bL,dC⟩,fQ,hP,mO,vO⟩:=h
 have mf:∀ {q:Nat} {y:a9},X[q]? = some y→(X++[x])[q]? = some y:=fun aE=>by rw[fv (cD.1 aE).1];exact aE
 refine⟨ad,⟨q0,gR,mf ag,aJ,bL,dC⟩,fun c br af aw=>?_,hP,by rw[gT,mO];simp;omega,vO⟩
 obtain⟨m,a3,a7⟩:=fQ c br af aw
 exact⟨m,a3,mf a7⟩
def te(v:ah):Prop:=v.cells=[v]∧storable v=true
theorem Dw(o e i n k:Nat)(c:Bool):te (.ms o e i n k c):=⟨rfl,rfl⟩
theorem ad0{b:Nat}{aH:List c3}{cZ c9:ah}{loc:Nat→Nat}{cq ca cr:a9}{X:aj}(eB:px b aH c9 0 loc X∨(b=1∧aH=[]∧c9=.t (.aA (.slice none 0 0))∧X=[]))(af:sk cq ca cr cZ c9 X)(ao:aH.length≤10000)(s:Int) :
  ∃ gS cw,(∀ cq ca cr M S:a9,qY 2 32 c9 (cq::ca::cr::M::S::X) (some [.t (.agg [I s,.aA (.slice none 0 0)])])=some (gS,cq::ca::cr::M::S::cw))∧px b (aH++[⟨s,[]⟩]) gS 0 loc cw∧sk cq ca cr cZ gS cw∧UE X cw∧te gS:=by
 rcases eB with⟨kI,⟨es,aG,fa,bN,jl,iB⟩,vQ,Bv,hlen,ie⟩|⟨rfl,rfl,rfl,rfl⟩
 ·have aC:0<X.length:=(cD.1 fa).1
  have lR:dw (bV (X.length+5)) es=true:=af.x _ (gp fa)
  have kX:∀(c:Nat) br,(aH++[(⟨s,[]⟩:c3)])[c]? = some br→(c=aH.length∧br=⟨s,[]⟩)∨aH[c]? = some br:=fun c br h=>by
   rw[vz]at h
   split at h
   ·exact .inr h
   ·rename_i ad
    have:c-aH.length=0:=by
     have:=(cD.1 h).1
     simpa using this
    rw[this]at h
    simp only[lG,Option.some.injEq]at h
    exact .inl ⟨by omega,h.symm⟩
  have eo:∀ {q k:Nat} {q0:List ah} {m:Nat},X[q]? = some (.row k q0 m)→k≠2→0≠q:=fun aE an he=>by rw[← he,fa]at aE;cases aE;exact an rfl
  refine⟨.ms 5 (aH.length+1) 0 (aH.length+1) 2 false,X.set 0 (.row 2 (es++[.t (.agg [I s,.aA (.slice none 0 0)])]) aG),fun cq ca cr M S=>?_,⟨by simp,⟨_,aG,by rw[l7 aC],by simp;omega,by simp[jl],fun c br dY=>?_⟩,fun c br dY aw=>?_,fun c c' br Dx ad ag aw ll gk=>?_,?_,fun br dY=>?_⟩,⟨af.r,?_,?_,fun o aC=>?_⟩,fun q gI oD aE=>?_,Dw _ _ _ _ _ _⟩
  ·subst kI
   rw[zi,show(cq::ca::cr::M::S::X)[0+5]? = some (a9.row 2 es aG)from fa,zh,a6 ⟨by simp[eQ];omega,rfl,rfl,by omega,by omega,by omega⟩]
   simp only[fJ,et,lF,nD]
   rw[a6 (by first|exact⟨rfl,rfl,jl.symm⟩|simp[jl])]
   rfl
  ·rcases kX c br dY with⟨rfl,rfl⟩|dY
   ·rw[← jl,g5 (bP _)]
    simp[xi]
   ·rw[fv (by rw[jl];exact(cD.1 dY).1)]
    exact iB c br dY
  ·rcases kX c br dY with⟨rfl,rfl⟩|dY
   ·exact absurd rfl aw
   ·obtain⟨m,ad,ag⟩:=vQ c br dY aw
    exact⟨m,ad,by rw[iv (eo ag (by omega))];exact ag⟩
  ·rcases kX c br ad with⟨rfl,rfl⟩|ad<;>rcases kX c' Dx ag with⟨rfl,rfl⟩|ag
   ·rfl
   ·exact absurd rfl aw
   ·exact absurd rfl ll
   ·exact Bv c c' br Dx ad ag aw ll gk
  ·rw[uA,hlen,auc];simp[ft]
  ·rcases hp.1 dY with h|h
   ·exact ie br h
   ·simp only[iu,mG,mE]at h
    subst h
    simp
  ·rw[uA];exact af.cZ
  ·rw[uA]
   simp only[cL,bV,pC,oi]
   omega
  ·rw[uA]
   rcases mem_set aC with rfl|aC
   ·show dw _ _=true
    have:∀(l:List ah) (x:ah),dw (bV (X.length+5)) l=true→cL (bV (X.length+5)) x=true→dw (bV (X.length+5)) (l++[x])=true:=by
     intro l x ao U
     induction l with
     | nil=>simp only[ea,dw,U,uu]
     | cons y l au=>simp only[dw,fe,dS]at ao ⊢;exact⟨ao.1,au ao.2⟩
    exact this es _ lR rfl
   ·exact af.x o aC
  ·rw[iv (eo aE (by omega))];exact aE
 ·refine⟨.ms 5 1 0 1 2 false,[.row 2 [.t (.agg [I s,.aA (.slice none 0 0)])] 0],fun cq ca cr M S=>?_,⟨rfl,⟨_,0,rfl,by simp,rfl,fun c br dY=>?_⟩,fun c br dY aw=>?_,fun c c' br Dx ad ag aw ll gk=>?_,rfl,fun br dY=>?_⟩,⟨af.r,?_,rfl,fun o aC=>?_⟩,fun q gI oD aE=>?_,Dw _ _ _ _ _ _⟩
  ·rw[Pr,a6 (by simp[eQ])]
   rfl
  ·cases c with
   | zero=>simp only[ea,lG,Option.some.injEq]at dY;subst dY;simp[xi]
   | succ c=>simp at dY
  ·cases c with
   | zero=>simp only[ea,lG,Option.some.injEq]at dY;subst dY;exact absurd rfl aw
   | succ c=>simp at dY
  ·cases c with
   | zero=>simp only[ea,lG,Option.some.injEq]at ad;subst ad;exact absurd rfl aw
   | succ c=>simp at ad
  ·simp only[ea,iu,mG,mE]at dY
   subst dY
   simp
  ·exact Dp (by simp) af.cZ
  ·simp only[iu,mG,mE]at aC
   subst aC
   rfl
  ·simp at aE
theorem al2{b:Nat}{aH:List c3}{cZ c9:ah}{loc:Nat→Nat}{cq ca cr:a9}{X:aj}{g:List Int}(eB:px b aH c9 0 loc X)(af:sk cq ca cr cZ c9 X)(ay:xq g cZ X)(qi:g=[]→cZ=.t (.aA (.slice none 0 0)))(ao:g.length≤10000)(x:Int) :
  ∃ gL cw bS,(∀ cq ca cr M S:a9,qY 1 8 cZ (cq::ca::cr::M::S::X) (some [.t (I x)])=some (gL,cq::ca::cr::M::S::cw))∧px bS aH c9 0 loc cw∧sk cq ca cr gL c9 cw∧xq (g++[x]) gL cw∧te gL∧(bS=b∨(g=[]∧bS=b+1)):=by
 rcases ay with rfl|⟨a,es,aG,re,fa,bN,nj,iB⟩
 ·have re:=qi rfl
  subst re
  refine⟨.ms (X.length+5) 1 0 1 1 false,X++[.row 1 [.t (I x)] 0],b+1,fun cq ca cr M S=>?_,eB.more _,⟨af.r,?_,?_,fun o aC=>?_⟩,.inr ⟨X.length,[.t (I x)],0,rfl,by simp,by simp,by simp,fun j v aU=>?_⟩,Dw _ _ _ _ _ _,.inr ⟨rfl,rfl⟩⟩
  ·rw[Pr,a6 (by simp[eQ])]
   rfl
  ·simp only[cL,bV,pC,oi,gT,jc,lF]
   omega
  ·exact Dp (by simp) af.c9
  ·rw[gT]
   rcases hp.1 aC with aC|aC
   ·exact GG (by simp) (af.x o aC)
   ·simp only[iu,mG,mE]at aC
    subst aC
    rfl
  ·cases j with
   | zero=>simp only[ea,lG,Option.some.injEq]at aU ⊢;rw[aU]
   | succ j=>simp at aU
 ·have aC:a<X.length:=(cD.1 fa).1
  have lR:dw (bV (X.length+5)) es=true:=af.x _ (gp fa)
  have gX:∀ gI,(∀ y∈gI,y=.t (I x)∨y∈es)→dw (bV (X.length+5)) gI=true:=by
   intro gI h
   have mT:∀(l:List ah),dw (bV (X.length+5)) l=true↔∀ y∈l,cL (bV (X.length+5)) y=true:=by
    intro l
    induction l with
    | nil=>simp[dw]
    | cons z l au=>simp[dw,au]
   rw[mT]at lR ⊢
   intro y ar
   rcases h y ar with rfl|h
   ·rfl
   ·exact lR y h
  have fin:∀ gI oD,(∀ y∈gI,y=.t (I x)∨y∈es)→sk cq ca cr (.ms (a+5) gI.length 0 (g++[x]).length 1 false) c9 (X.set a (.row 1 gI oD)):=fun gI oD h=>by
   refine⟨af.r,?_,by rw[uA];exact af.c9,fun o aC=>?_⟩
   ·rw[uA]
    simp only[cL,bV,pC,oi]
    omega
   ·rw[uA]
    rcases mem_set aC with rfl|aC
    ·exact gX gI h
    ·exact af.x o aC
  subst re
  by_cases he:g.length=es.length
  ·refine⟨.ms (a+5) (es++[ah.t (I x)]).length 0 (g++[x]).length 1 false,X.set a (.row 1 (es++[.t (I x)]) aG),b,fun cq ca cr M S=>?_,eB.set fa,fin _ _ (fun y ar=>by rcases hp.1 ar with h|h;exact .inr h;exact .inl (by simpa using h)),.inr ⟨a,es++[.t (I x)],aG,rfl,by rw[l7 aC],by simp;omega,by simp;omega,fun j v aU=>?_⟩,Dw _ _ _ _ _ _,.inl rfl⟩
   ·rw[zi,show(cq::ca::cr::M::S::X)[a+5]? = some (a9.row 1 es aG)from fa,zh,a6 ⟨by simp[eQ];omega,rfl,rfl,by omega,by omega,by omega⟩]
    simp only[fJ,et,lF,nD,gT,jc]
    rw[a6 (by simp[he])]
    rfl
   ·rw[vz]at aU ⊢
    rw[← he]
    split at aU
    ·rename_i ad;rw[a6 ad];exact iB j v aU
    ·rename_i ad
     rw[a2 ad]
     have:j-g.length=0:=by
      have:=(cD.1 aU).1
      simpa using this
     rw[this]at aU ⊢
     simp only[lG,Option.some.injEq]at aU ⊢
     rw[aU]
  ·have so:g.length+[ah.t (I x)].length≤es.length:=by simp;omega
   have gk:(es.take g.length++[ah.t (I x)]++es.drop (g.length+1)).length=es.length:=by simp;omega
   refine⟨.ms (a+5) (es.take g.length++[ah.t (I x)]++es.drop (g.length+1)).length 0 (g++[x]).length 1 false,X.set a (.row 1 (es.take g.length++[.t (I x)]++es.drop (g.length+1)) es.length),b,fun cq ca cr M S=>?_,eB.set fa,fin _ _ (fun y ar=>?_),.inr ⟨a,_,es.length,rfl,by rw[l7 aC],by rw[gk];exact bP _,by rw[gk];simp;omega,fun j v aU=>?_⟩,Dw _ _ _ _ _ _,.inl rfl⟩
   ·rw[zi,show(cq::ca::cr::M::S::X)[a+5]? = some (a9.row 1 es aG)from fa,zh,a6 ⟨by simp[eQ];omega,rfl,rfl,by omega,by omega,by omega⟩,gk]
    simp only[fJ,et,lF,nD,gT,jc]
    rw[a2 (fun h=>he h.2.1),a6 (by first|exact⟨rfl,by omega,rfl⟩|exact⟨trivial,by omega,trivial⟩)]
    rfl
   ·rcases hp.1 ar with h|h
    ·rcases hp.1 h with h|h
     ·exact .inr (C7 h)
     ·exact .inl (by simpa using h)
    ·exact .inr (List.mem_of_mem_drop h)
   ·have:=Vi (elems:=es) (xs:=[ah.t (I x)]) so j
    simp only[jc,lF,nD]at this
    rw[this]
    rw[vz]at aU
    split at aU
    ·rename_i ad;rw[a6 ad];exact iB j v aU
    ·rename_i ad
     have qk:j-g.length=0:=by
      have:=(cD.1 aU).1
      simpa using this
     rw[a2 ad,a6 (by omega)]
     rw[qk]at aU ⊢
     simp only[lG,Option.some.injEq]at aU ⊢
     rw[aU]
theorem al3{cZ:ah}{X:aj}{g:List Int}{x:Int}(ay:xq (g++[x]) cZ X):∃ gL,kp 1 cZ none (some (.t (I (g.length:Nat)))) none=some gL∧xq g gL X∧te gL∧∀ n,cL (bV n) cZ=true→cL (bV n) gL=true:=by
 rcases ay with h|⟨a,es,aG,re,fa,bN,nj,iB⟩
 ·simp at h
 ·subst re
  rw[gT,jc,lF]at nj
  refine⟨.ms (a+5) es.length 0 g.length 1 false,?_,.inr ⟨a,es,aG,rfl,fa,bN,by omega,fun j v aU=>iB j v (by rw[fv (cD.1 aU).1];exact aU)⟩,Dw _ _ _ _ _ _,fun n h=>h⟩
  have ad:(0:Int)≤((g.length:Nat):Int):=by omega
  simp[kp,hM,asNat,ad]
end Go.Proofs.YtogagakgmbkonaaGreat
namespace Go.Proofs.YtogagakgmbkonaaGreat
open Go Go.Abs
theorem Kr(a b:ah)(o:Nat):e6 [a,b,.mp o]=none:=by
 cases a<;>cases b<;>rfl
structure uj(bD:Nat)(b:Nat)(g:List Int)(aH:List c3)(cZ c9:ah)(cq ca cr:a9)(X:aj):Prop where
 p:∃ loc,px b aH c9 0 loc X
 c:sk cq ca cr cZ c9 X
 g:xq g cZ X
 lf:te cZ
 gG:te c9
 b:b≤2
 l:aH.length≤bD+1
def Qz(p:b7)(g:List Int):Prop:=∀(j:Nat) v,g[j]? = some v→0≤v∧v<240
theorem azU{h H:aj}{x:T}{Q:ah→aj→Prop}(ao:h.length=H.length)(af:∀ o∈H,hs H.length o)(aE:Q (.t x) H):yJ h Q (.t x) H:=by
 have:=@V8 h H [] x Q ao af aE
 rwa[oj]at this
section
variable(c1 c2:Bool)(p:b7)(bD:Nat)(cq ca cr:a9)(aR:Nat)
def Oy(k:Nat):Prop:=∀(g:List Int) (aH:List c3),g.length+k=p.aK.length→Qz p g→g≠[]→∀(b:Nat) (cZ c9:ah) (fs:Nat) (X:aj) (kn:List (jj × Bool)),fs≤1→kq p kn→uj bD b g aH cZ c9 cq ca cr X →
  ∀(bn:Nat) (Q:ah→aj→Prop),
  (∀ hX b8,fx p bD k g aH=.yes hX b8→∀ bS gL gS jf cw eH,jf≤1→uj bD bS hX b8 gL gS cq ca cr cw→Q (.t (B true)) (cE cq ca cr eH (iX c1 c2 p bD gL gS) jf cw)) →
  (∀ b8,fx p bD k g aH=.no b8→∀ gL gS jf cw eH,jf≤1→kq p eH→uj bD b g b8 gL gS cq ca cr cw→Q (.t (B false)) (cE cq ca cr eH (iX c1 c2 p bD gL gS) jf cw)) →
  (fx p bD k g aH=.lq→∀ Y,Q .dead (cq::ca::cr::Y)) →
  ej (inl Tryz.prog pol (a0 Tryz.prog pol) aR (bn+k+2) (.fn 26) [.ref 4 1 0 0,.t (I (g.length:Nat))] (cE cq ca cr kn (iX c1 c2 p bD cZ c9) fs X)) Q
def P7(g:List Int)(b at_ sG:Nat)(r:hU)(x:cW)(e:aM)(aY:aj):Prop:=match r with
 | .lq=>x=.panic∧∃ Y,aY=cq::ca::cr::Y
 | .yes hX b8=>x=.ret∧e 4=.t (B true)∧∃ bS gL gS jf cw eH,jf≤1∧uj bD bS hX b8 gL gS cq ca cr cw∧aY=cE cq ca cr eH (iX c1 c2 p bD gL gS) jf cw
 | .no b8=>(x=.exit 0∧e 0=.ref 4 1 0 0∧e 1=.t (I (g.length:Nat))∧e 5=.t (I (at_:Nat))∧e 6=.t (I (sG:Nat)))∧∃ bS gL gS jf cw eH,jf≤1∧kq p eH∧(g≠[]→bS=b)∧uj bD bS g b8 gL gS cq ca cr cw∧(∃ br,b8[at_]? = some br∧br.bM.length≤sG)∧aY=cE cq ca cr eH (iX c1 c2 p bD gL gS) jf cw
variable(h:jt p)(ni:bD≤1999)(aw:10000<aR)
include h ni aw
theorem akf(k:Nat)(Oz:k≠0→Oy c1 c2 p bD cq ca cr aR k)(g:List Int)(aH:List c3)(an:g.length+(k+1)=p.aK.length)(iD:Qz p g)(at_ sG:Nat)(hm:sG≤240∧(g=[]→sG≤1))(b:Nat)(cZ c9:ah)(fs:Nat)(X:aj)(kn:List (jj × Bool))(ig:fs≤1)(hg:kq p kn)(J:uj bD b g aH cZ c9 cq ca cr X)(qi:g=[]→b=1∧cZ=.t (.aA (.slice none 0 0)))(iU:∃ br,aH[at_]? = some br∧br.bM=[])(bn cF:Nat)(iV:1000000≤cF)(R:cW→aM→aj→Prop)(e:aM)
  (he:e 0=.ref 4 1 0 0∧e 1=.t (I (g.length:Nat))∧e 5=.t (I (at_:Nat))∧e 6=.t (I (sG:Nat))∧e 44=.t (I (sG:Nat))∧e 45=.t (I 0))
  (bk:∀ x e aY,P7 c1 c2 p bD cq ca cr g b at_ sG (gJ (fun x (_:Unit) b8=>ep p (decide (k=0)) (fx p bD k) at_ g x b8) hU.no 0 (List.replicate sG ()) aH) x e aY→R x e aY) :
  gP cF (some [0,1,5,6,44,45]) (c6 Tryz.prog pol (a0 Tryz.prog pol) (inl Tryz.prog pol (a0 Tryz.prog pol) aR (bn+k+2)) aR 26 Tl) R aR e (cE cq ca cr kn (iX c1 c2 p bD cZ c9) fs X):=by
 have iG:=h.len
 have am:=Kr
 refine wj sG (step:=fun x b8=>ep p (decide (k=0)) (fx p bD k) at_ g x b8) (fin:=hU.no)
  (St:=fun x b8 e aY=>(e 0=.ref 4 1 0 0∧e 1=.t (I (g.length:Nat))∧e 5=.t (I (at_:Nat))∧e 6=.t (I (sG:Nat))∧e 44=.t (I (sG:Nat))∧e 45=.t (I (x:Nat)))∧∃ bS gL gS jf cw eH,jf≤1∧kq p eH∧(g≠[]→bS=b)∧(g=[]→x=0→bS=1∧gL=.t (.aA (.slice none 0 0)))∧uj bD bS g b8 gL gS cq ca cr cw∧(∃ br,b8[at_]? = some br∧br.bM.length≤x)∧aY=cE cq ca cr eH (iX c1 c2 p bD gL gS) jf cw)
  (Ex:=P7 c1 c2 p bD cq ca cr g b at_ sG) (s:=aH) (by omega) ?_ ?_ (by omega) ?_ bk
 ·intro x aH e aY Y R U aB hw ⟨⟨bE,s1,bC,bt,oI,pn⟩,bS,cZ,c9,fs,X,kn,ig,hg,ab,qi,J,⟨br,dY,xD⟩,aY⟩ hR
  subst aY
  have zM:=@awY c1 c2 p h bD cZ c9 fs ig cq ca cr X J.c kn hg g J.g (by omega) iD (x:Nat) (by omega) (bn+k) aR (by omega)
  simp only[ep]at hR
  simp only[cE]at zM hR ⊢
  generalize qJ p (g.length:Nat) (x:Nat) 0 g=r at *
  simp only[wa,tG,go_sem,bE,s1,bC,bt,oI,pn,aB]
  with_reducible refine zM _ ?_
  intro IV By
  rw[adK (adS 51 rfl)]
  refine azU rfl (J.c.all c1 c2 p bD IV fs) ?_
  have iU:at_<aH.length:=(cD.1 dY).1
  obtain⟨loc,av⟩:=J.p
  have hy:∀(b8:List c3) (wi:Nat→Nat) (b:Nat) (c9:ah) (cw:aj),b≤2→b8.length≤bD+1→px b b8 c9 0 wi cw→∀(cJ cU dU gA lI:a9) (e:aM),iq cF e (cJ::cU::dU::gA::lI::cw)=some (e,cJ::cU::dU::gA::lI::cw):=fun b8 wi b c9 cw ab ao av cJ cU dU gA lI e=>by
   unfold iq
   rw[a6]
   have:=aud b8
   have:=av.len
   simp only[jc]
   omega
  by_cases al:r = -1
  ·have vE:decide (r = -1)=true:=bY al
   rw[a6 al]at hR
   have j2:=J.lf
   have fq:=J.gG
   have xN:zU c9=some (.t (I (aH.length:Nat))):=by rw[av.c9];rfl
   obtain⟨YS,C4,cN,mf,nk,tr,uN,zx,kW⟩:=al2 av J.c J.g (fun bo=>(qi bo (by have:=hm.2 bo;omega)).2) (by omega) (x:Nat)
   have j1:cN≤2:=by
    rcases kW with rfl|⟨bo,rfl⟩
    ·exact J.b
    ·have:=(qi bo (by have:=hm.2 bo;omega)).1;omega
   have xC:g≠[]→cN=b:=fun bo=>by
    rcases kW with rfl|⟨ad,_⟩
    ·exact ab bo
    ·exact absurd ad bo
   have wn:IntKind.i64.wrap (((p.aK.length:Nat):Int)-1)=((p.aK.length:Nat):Int)-1:=wrap_i64 (by omega) (by omega)
   by_cases o1:k=0
   ·have dl:decide (((g.length:Nat):Int)=((p.aK.length:Nat):Int)-1)=true:=bY (by omega)
    rw[a6 (bY o1),lg]at hR
    (repeat' first|simp only[wa,tG,go_sem,bE,s1,bC,bt,oI,pn,vE,j2.1,j2.2,fq.1,fq.2,zx.1,zx.2,am,mf,xN,ig,wn,dl,bJ]|with_reducible first|refine aZ fun _=>?_|refine a1 ?_|fail)
    refine hR _ _ _ ⟨rfl,?_,cN,YS,c9,1,C4,IV,bP _,⟨⟨loc,nk⟩,tr,uN,zx,fq,j1,J.l⟩,rfl⟩
    simp only[go_sem]
   ·have dl:decide (((g.length:Nat):Int)=((p.aK.length:Nat):Int)-1)=false:=bA (by omega)
    rw[a2 (by rw[ho];exact o1)]at hR
    have dZ:IntKind.i64.wrap (((g.length:Nat):Int)+1)=((g.length+1:Nat):Int):=wrap_i64 (by omega) (by omega)
    (repeat' first|simp only[wa,tG,go_sem,bE,s1,bC,bt,oI,pn,vE,j2.1,j2.2,fq.1,fq.2,zx.1,zx.2,am,mf,xN,ig,wn,dl,dZ,bJ]|with_reducible first|refine aZ fun _=>?_|refine a1 ?_|fail)
    have fA:(g++[((x:Nat):Int)]).length=g.length+1:=by simp
    have QK:=@Oz o1 (g++[((x:Nat):Int)]) aH (by omega) (fun j v aU=>by
     rw[vz]at aU
     split at aU
     ·exact iD j v aU
     ·have:=gp aU
      simp only[iu,mG,mE]at this
      omega) (by simp) cN YS c9 1 C4 IV (bP _) By ⟨⟨loc,nk⟩,tr,uN,zx,fq,j1,J.l⟩ bn
    rw[fA]at QK
    simp only[cE]at QK
    with_reducible refine QK _ ?_ ?_ ?_
    ·intro hX b8 dm db YT Jf adb C5 rA iF sv
     rw[dm,lg]at hR
     simp only[wa,tG,go_sem,dl]
     refine hR _ _ _ ⟨rfl,?_,db,YT,Jf,adb,C5,rA,iF,sv,rfl⟩
     simp only[go_sem]
    ·intro b8 dm YT Jf adb C5 rA iF xM sv
     rw[dm]at hR
     simp only[g6,← al]at hR
     obtain⟨La,Rg,ani,Ra,gX⟩:=al3 sv.g
     have Zc:=sv.lf
     have Rd:=sv.gG
     obtain⟨UR,Hy⟩:=sv.p
     have zw:sk cq ca cr La Jf C5:=⟨sv.c.r,gX _ sv.c.cZ,sv.c.c9,sv.c.x⟩
     have Zd:b8[at_]? = some br:=by rw[(KN p bD k _ _ _ dm).2 at_ iU];exact dY
     have o0:=@Pn c1 c2 p bD La Jf 1 (bP _) cq ca cr C5 rA cN 0 b8 UR Hy zw at_ br Zd (by omega) ⟨(x:Nat),(x+1:Nat),r,(aH.length:Nat)⟩ (bn+k+1) aR
     rw[show bn+k+1+1=bn+k+2 from rfl]at o0
     simp only[cE]at o0
     (repeat' first|simp only[wa,tG,go_sem,hw,Zc.1,Zc.2,Rd.1,Rd.2,Ra.1,Ra.2,am,Rg,iF]|with_reducible first|refine aZ fun _=>?_|refine a1 ?_|fail)
     with_reducible refine o0 _ ?_
     intro cw wi o3 zv h4
     have j3:(kQ b8 at_ ⟨(x:Nat),(x+1:Nat),r,(aH.length:Nat)⟩).length≤bD+1:=by rw[ke];exact sv.l
     have zC:xq g La cw:=by
      rcases ani with bo|⟨a,es,aG,ad,ag,aJ⟩
      ·exact .inl bo
      ·exact .inr ⟨a,es,aG,ad,h4 a es aG ag,aJ⟩
     have R9:=hy _ _ _ _ _ sv.b j3 o3
     simp only[wa,tG,go_sem,hw,R9]
     refine hR _ _ ⟨?_,cN,La,Jf,1,cw,rA,bP _,xM,xC,fun _ bo=>absurd bo (by omega),⟨⟨wi,o3⟩,zv,zC,Ra,Rd,sv.b,j3⟩,⟨_,Di Zd,?_⟩,rfl⟩
     ·simp only[go_sem]
     ·show(js br.bM _).length≤_
      have:=Uw br.bM ⟨(x:Nat),(x+1:Nat),r,(aH.length:Nat)⟩
      omega
    ·intro dm aBv
     rw[dm,lg]at hR
     simp only[wa,tG,go_sem,dl]
     exact hR _ _ _ ⟨rfl,_,rfl⟩
  ·have vE:decide (r = -1)=false:=bA al
   rw[a2 al,g6]at hR
   have o0:=@Pn c1 c2 p bD cZ c9 fs ig cq ca cr X IV bS 0 aH loc av J.c at_ br dY (by omega) ⟨(x:Nat),(x+1:Nat),r,0⟩ (bn+k+1) aR
   rw[show bn+k+1+1=bn+k+2 from rfl]at o0
   simp only[cE]at o0
   (repeat' first|simp only[wa,tG,go_sem,bE,s1,bC,bt,oI,pn,vE,hw]|with_reducible first|refine aZ fun _=>?_|refine a1 ?_|fail)
   with_reducible refine o0 _ ?_
   intro cw wi o3 zv h4
   have j3:(kQ aH at_ ⟨(x:Nat),(x+1:Nat),r,0⟩).length≤bD+1:=by rw[ke];exact J.l
   have zC:xq g cZ cw:=by
    rcases J.g with bo|⟨a,es,aG,ad,ag,aJ⟩
    ·exact .inl bo
    ·exact .inr ⟨a,es,aG,ad,h4 a es aG ag,aJ⟩
   have R9:=hy _ _ _ _ _ J.b j3 o3
   simp only[wa,tG,go_sem,bE,s1,bC,bt,oI,pn,hw,R9]
   refine hR _ _ ⟨?_,bS,cZ,c9,fs,cw,IV,ig,By,ab,fun _ bo=>absurd bo (by omega),⟨⟨wi,o3⟩,zv,zC,J.lf,J.gG,J.b,j3⟩,⟨_,Di dY,?_⟩,rfl⟩
   ·simp only[go_sem]
   ·show(js br.bM _).length≤_
    have:=Uw br.bM ⟨(x:Nat),(x+1:Nat),r,0⟩
    omega
 ·intro aH e aY Y R aB ⟨⟨bE,s1,bC,bt,oI,pn⟩,bS,cZ,c9,fs,X,kn,ig,hg,ab,qi,J,dY,aY⟩ hR
  subst aY
  simp only[cE]at hR ⊢
  simp only[wa,tG,go_sem,bE,s1,bC,bt,oI,pn,aB]
  refine hR _ _ _ ⟨⟨rfl,?_⟩,bS,cZ,c9,fs,X,kn,ig,hg,ab,J,dY,rfl⟩
  simp only[go_sem,bE,s1,bC,bt]
 ·exact⟨he,b,cZ,c9,fs,X,kn,ig,hg,fun _=>rfl,fun h _=>qi h,J,by obtain⟨br,a3,a7⟩:=iU;exact⟨br,a3,by rw[a7];simp⟩,rfl⟩
end
end Go.Proofs.YtogagakgmbkonaaGreat
namespace Go.Proofs.YtogagakgmbkonaaGreat
open Go Go.Abs
section
variable(c1 c2:Bool)(p:b7)(h:jt p)(bD:Nat)(ni:bD≤1999)(cq ca cr:a9)(aR:Nat)(aw:10000<aR)
include h ni aw
theorem X9(k:Nat)(Oz:k≠0→Oy c1 c2 p bD cq ca cr aR k)(g:List Int)(aH:List c3)(an:g.length+(k+1)=p.aK.length)(iD:Qz p g)(b:Nat)(cZ c9:ah)(fs:Nat)(X:aj)(kn:List (jj × Bool))(ig:fs≤1)(hg:kq p kn)
  (aS:uj bD b g aH cZ c9 cq ca cr X∧g≠[]∨(g=[]∧aH=[]∧b=1∧cZ=.t (.aA (.slice none 0 0))∧c9=.t (.aA (.slice none 0 0))∧X=[]∧hs 5 cq∧hs 5 ca∧hs 5 cr)) (bn:Nat) (Q:ah→aj→Prop)
  (bW:∀ hX b8,fx p bD (k+1) g aH=.yes hX b8→∀ bS gL gS jf cw eH,jf≤1→uj bD bS hX b8 gL gS cq ca cr cw→Q (.t (B true)) (cE cq ca cr eH (iX c1 c2 p bD gL gS) jf cw))
  (bG:∀ b8,fx p bD (k+1) g aH=.no b8→∀ bS gL gS jf cw eH,jf≤1→kq p eH→(g≠[]→bS=b)→uj bD bS g b8 gL gS cq ca cr cw→Q (.t (B false)) (cE cq ca cr eH (iX c1 c2 p bD gL gS) jf cw))
  (eB:fx p bD (k+1) g aH=.lq→∀ Y,Q .dead (cq::ca::cr::Y)) :
  ej (inl Tryz.prog pol (a0 Tryz.prog pol) aR (bn+k+3) (.fn 26) [.ref 4 1 0 0,.t (I (g.length:Nat))] (cE cq ca cr kn (iX c1 c2 p bD cZ c9) fs X)) Q:=by
 have iG:=h.len
 have xN:zU c9=some (.t (I (aH.length:Nat))):=by
  rcases aS with⟨⟨⟨loc,av⟩,_,_,_,_,_,_⟩,_⟩|⟨_,rfl,_,_,rfl,_⟩
  ·rw[av.c9];rfl
  ·rfl
 have fq:te c9:=by
  rcases aS with⟨J,_⟩|⟨_,rfl,_,_,rfl,_⟩
  ·exact J.gG
  ·exact⟨rfl,rfl⟩
 have j2:te cZ:=by
  rcases aS with⟨J,_⟩|⟨_,rfl,_,rfl,_,_⟩
  ·exact J.lf
  ·exact⟨rfl,rfl⟩
 have am:=Kr
 refine lp ap4 (bH rfl) ?_
 simp only[cE]
 by_cases aI:bD<aH.length
 ·have d0:decide ((bD:Int)<((aH.length:Nat):Int))=true:=bY (by omega)
  have eB:=eB (by rw[fx,a6 aI])
  simp only[z0,go_sem,ig,xN,d0,fq.1,fq.2,j2.1,j2.2,am]
  exact eB _
 ·have d0:decide ((bD:Int)<((aH.length:Nat):Int))=false:=bA (by omega)
  obtain⟨A7,PA⟩:=oF p h (s:=(g.length:Nat)) (by omega)
  obtain⟨gj,_⟩:=wv (p:=p) (s:=(g.length:Nat)) (by omega)
  have eT:g.length<p.aK.length:=by omega
  rw[ld]at gj
  have Ed:∃ loc gS cw,(∀ cq ca cr M S:a9,qY 2 32 c9 (cq::ca::cr::M::S::X) (some [.t (.agg [I (g.length:Nat),.aA (.slice none 0 0)])])=some (gS,cq::ca::cr::M::S::cw))∧px b (aH++[⟨(g.length:Nat),[]⟩]) gS 0 loc cw∧sk cq ca cr cZ gS cw∧UE X cw∧te gS:=by
   rcases aS with⟨⟨⟨loc,av⟩,af,_,_,_,_,_⟩,_⟩|⟨_,rfl,rfl,rfl,rfl,rfl,hC,a3,a7⟩
   ·exact⟨loc,ad0 (.inl av) af (by omega) _⟩
   ·exact⟨fun _=>0,ad0 (.inr ⟨rfl,rfl,rfl,rfl⟩) ⟨⟨hC,a3,a7⟩,rfl,rfl,by simp⟩ (by simp) _⟩
  obtain⟨loc,yt,C4,mf,nk,tr,By,Rc⟩:=Ed
  have HB:uj bD b g (aH++[⟨(g.length:Nat),[]⟩]) cZ yt cq ca cr C4:=by
   refine⟨⟨loc,nk⟩,tr,?_,j2,Rc,?_,by simp;omega⟩
   ·rcases aS with⟨J,_⟩|⟨bo,_⟩
    ·rcases J.g with bo|⟨a,es,aG,ad,ag,aJ⟩
     ·exact .inl bo
     ·exact .inr ⟨a,es,aG,ad,By a es aG ag,aJ⟩
    ·exact .inl bo
   ·rcases aS with⟨J,_⟩|⟨_,_,rfl,_⟩
    ·exact J.b
    ·omega
  have qi:g=[]→b=1∧cZ=.t (.aA (.slice none 0 0)):=fun bo=>by
   rcases aS with⟨_,ad⟩|⟨_,_,ad,ag,_⟩
   ·exact absurd bo ad
   ·exact⟨ad,ag⟩
  have anS:hb p g≤240∧(g=[]→hb p g≤1):=by
   unfold hb
   split
   ·exact⟨by omega,fun _=>bP _⟩
   ·rename_i bo
    exact⟨by omega,fun ad=>absurd ad bo⟩
  have kl:=fun cF=>@akf c1 c2 p bD cq ca cr aR h ni aw k Oz g (aH++[⟨(g.length:Nat),[]⟩]) an iD aH.length (hb p g) anS b cZ yt 1 C4 kn (bP _) hg HB qi ⟨⟨(g.length:Nat),[]⟩,by simp,rfl⟩ bn cF
  have dm:fx p bD (k+1) g aH=DG p g aH.length (gJ (fun x (_:Unit) b8=>ep p (decide (k=0)) (fx p bD k) aH.length g x b8) hU.no 0 (List.replicate (hb p g) ()) (aH++[⟨(g.length:Nat),[]⟩])):=by rw[fx,a2 aI]
  rw[dm]at bW bG eB
  generalize gJ (fun x (_:Unit) b8=>ep p (decide (k=0)) (fx p bD k) aH.length g x b8) hU.no 0 (List.replicate (hb p g) ()) (aH++[⟨(g.length:Nat),[]⟩])=F at *
  have amx:1000000≤List.length C4+1+1+1+1+1+1000000:=by omega
  simp only[cE]at kl
  obtain⟨q,X4,h5⟩:∃ q,decide (((g.length:Nat):Int)=0)=q∧(if q=true then((hb p g:Nat):Int)=1 else bT p (g.length:Nat)=((hb p g:Nat):Int)):=by
   by_cases ay:g=[]
   ·exact⟨true,bY (by rw[ay];rfl),by rw[a6 rfl];unfold hb;rw[a6 ay];rfl⟩
   ·have:=OX.2 ay
    exact⟨false,bA (by omega),by rw[a2 (by simp)];unfold hb;rw[a2 ay,uw (by omega)]⟩
  cases q<;>(
   simp only[fJ,et,cQ]at h5
   (repeat' first|simp only[z0,go_sem,ig,xN,d0,fq.1,fq.2,j2.1,j2.2,Rc.1,Rc.2,am,mf,gj,eT,X4,bJ]|with_reducible first|refine aZ fun _=>?_|refine a1 ?_|fail)
   with_reducible refine kl _ amx _ _ ?_ ?_
   ·simp only[go_sem,h5]
   ·intro x e aY U
    simp only[P7]at U
    cases F with
    | lq =>
     obtain⟨rfl,Y,rfl⟩:=U
     simp only[z0,go_sem,X4]
     exact eB rfl Y
    | yes hX b8 =>
     obtain⟨rfl,cB,bS,gL,gS,jf,cw,eH,iE,gl,rfl⟩:=U
     simp only[z0,go_sem,cB]
     exact bW hX b8 rfl bS gL gS jf cw eH iE gl
    | no b8 =>
     obtain⟨⟨rfl,t0,t1,t5,t6⟩,bS,gL,gS,jf,cw,eH,iE,h4,cS,gl,⟨br,dY,xD⟩,rfl⟩:=U
     have bG:=bG _ rfl
     by_cases aB:((hb p g:Nat):Int)<bT p (g.length:Nat)
     ·have PZ:decide (((hb p g:Nat):Int)<bT p (g.length:Nat))=true:=bY aB
      rw[a6 aB]at bG
      obtain⟨wi,o3⟩:=gl.p
      have o0:=@Pn c1 c2 p bD gL gS jf iE cq ca cr cw eH bS 0 b8 wi o3 gl.c aH.length br dY (by omega) ⟨(hb p g:Nat),bT p (g.length:Nat),-2,0⟩ (bn+k+1) aR
      rw[show bn+k+1+1=bn+k+2 from rfl]at o0
      simp only[cE]at o0 ⊢
      (repeat' first|simp only[z0,go_sem,t0,t1,t5,t6,gj,eT,PZ,iE,bJ]|with_reducible first|refine aZ fun _=>?_|refine a1 ?_|fail)
      with_reducible refine o0 _ ?_
      intro C5 UR Hy Bq hR
      simp only[z0,go_sem,t0,t1,t5,t6]
      refine bG bS gL gS jf C5 eH iE h4 cS ⟨⟨UR,Hy⟩,Bq,?_,gl.lf,gl.gG,gl.b,by rw[ke];exact gl.l⟩
      rcases gl.g with bo|⟨a,es,aG,ad,ag,aJ⟩
      ·exact .inl bo
      ·exact .inr ⟨a,es,aG,ad,hR a es aG ag,aJ⟩
     ·have PZ:decide (((hb p g:Nat):Int)<bT p (g.length:Nat))=false:=bA aB
      rw[a2 aB]at bG
      simp only[cE]at bG ⊢
      simp only[z0,go_sem,t0,t1,t5,t6,gj,eT,PZ,iE,bJ]
      exact bG bS gL gS jf cw eH iE h4 cS gl)
theorem ake:∀ k,k≠0→Oy c1 c2 p bD cq ca cr aR k:=by
 intro k
 induction k with
 | zero=>intro bo;exact absurd rfl bo
 | succ k au =>
  intro _ g aH an iD ay b cZ c9 fs X kn ig hg J bn Q bW bG eB
  exact X9 c1 c2 p h bD ni cq ca cr aR aw k au g aH an iD b cZ c9 fs X kn ig hg (.inl ⟨J,ay⟩) bn Q bW (fun b8 dm bS gL gS jf cw eH a3 a7 cz eJ=>by
   have:=cz ay
   subst this
   exact bG b8 dm gL gS jf cw eH a3 a7 eJ) eB
end
end Go.Proofs.YtogagakgmbkonaaGreat
