/- Part 22 of the proof of TopSchedule. -/
import Derived.Test.YtogagakgmbkonaaGreatS21
set_option linter.all false
set_option maxRecDepth 100000
set_option maxHeartbeats 4000000
namespace Go.Proofs.YtogagakgmbkonaaGreat
open Go Go.Abs
theorem acI(p:b7)(a b j:Int)(x:Nat)(u:fp):∀(l:List fp) (k:Nat),rr p a b j x u k l=true↔∃(n:Nat) (v:fp),l[n]? = some v∧k+n≠x∧v.str=j∧v.port=u.port∧sb p a b u v=true:=by
 intro l
 induction l with
 | nil=>intro k;simp[rr]
 | cons w l au =>
  intro k
  rw[rr,uy,au]
  constructor
  ·rintro(h|⟨n,v,ad,ag,aJ⟩)
   ·simp only[fe,pC,oi,ho]at h
    exact⟨0,w,rfl,by omega,h.2.1,h.2.2.1,h.2.2.2⟩
   ·exact⟨n+1,v,by simpa using ad,by omega,aJ⟩
  ·rintro⟨n,v,ad,ag,aJ,bL,dC⟩
   cases n with
   | zero =>
    simp only[lG,Option.some.injEq]at ad
    subst ad
    left
    simp only[fe,pC,oi,ho]
    exact⟨by omega,aJ,bL,dC⟩
   | succ n=>exact .inr ⟨n,v,by simpa using ad,by omega,aJ,bL,dC⟩
theorem auN(p:b7)(a b i j:Int):∀(l:List fp) (k:Nat),n0 p a b i j k l=true↔∃(n:Nat) (u:fp),l[n]? = some u∧u.str=i∧rr p a b j (k+n) u 0 p.dr=true:=by
 intro l
 induction l with
 | nil=>intro k;simp[n0]
 | cons w l au =>
  intro k
  rw[n0,uy,au]
  constructor
  ·rintro(h|⟨n,v,ad,ag,aJ⟩)
   ·simp only[fe,ho]at h
    exact⟨0,w,rfl,h.1,h.2⟩
   ·exact⟨n+1,v,by simpa using ad,ag,by rw[show k+(n+1)=k+1+n by omega];exact aJ⟩
  ·rintro⟨n,v,ad,ag,aJ⟩
   cases n with
   | zero =>
    simp only[lG,Option.some.injEq]at ad
    subst ad
    left
    simp only[fe,ho]
    exact⟨ag,aJ⟩
   | succ n=>exact .inr ⟨n,v,by simpa using ad,ag,by rw[show k+1+n=k+(n+1) by omega];exact aJ⟩
def mK(p:b7)(i a j b:Int):Prop:=n0 p a b i j 0 p.dr=true
theorem GC(p:b7)(i a j b:Int):mK p i a j b↔∃(x y:Nat) (u v:fp),p.dr[x]? = some u∧p.dr[y]? = some v∧x≠y∧u.str=i∧v.str=j∧v.port=u.port∧sb p a b u v=true:=by
 unfold mK
 rw[auN]
 constructor
 ·rintro⟨n,u,ad,ag,aJ⟩
  obtain⟨m,v,bL,dC,fQ,hP,mO⟩:=(acI ..).1 aJ
  exact⟨n,m,u,v,ad,bL,by omega,ag,fQ,hP,mO⟩
 ·rintro⟨n,m,u,v,ad,bL,dC,ag,fQ,hP,mO⟩
  exact⟨n,u,ad,ag,(acI ..).2 ⟨m,v,bL,by omega,fQ,hP,mO⟩⟩
def qe(p:b7)(i j:Int):Nat:=Nat.gcd (bT p i).toNat (bT p j).toNat
def CD(p:b7)(u v:fp)(d:Int):Prop:=u.kr≤(v.ec-u.ec+d) % (qe p u.str v.str:Nat)∧(v.ec-u.ec+d) % (qe p u.str v.str:Nat)≤(qe p u.str v.str:Nat)-v.kr
theorem emod_sub_emod(x y P Q G:Int)(ad:G ∣ P)(ag:G ∣ Q):(x % P-y % Q) % G=(x-y) % G:=by
 rw[Kg,F4 _ ad,F4 _ ag,← Kg]
section
variable{p:b7}(h:jt p)
include h
theorem Qt{i j:Int}(hi:0≤i∧i<p.aK.length)(aU:0≤j∧j<p.aK.length):((qe p i j:Nat):Int) ∣ bT p i∧((qe p i j:Nat):Int) ∣ bT p j∧0<qe p i j:=by
 obtain⟨cJ,cU⟩:=oF p h hi
 obtain⟨cN,db⟩:=oF p h aU
 have aT:bT p i=((bT p i).toNat:Nat):=by omega
 have aW:bT p j=((bT p j).toNat:Nat):=by omega
 refine⟨?_,?_,?_⟩
 ·conv=>rhs;rw[aT]
  exact OQ.2 (Pj _ _)
 ·conv=>rhs;rw[aW]
  exact OQ.2 (Nat.gcd_dvd_right _ _)
 ·exact F0 _ (by omega)
theorem Pz{u v:fp}(hu:wO p u)(az:wO p v)(a b:Int):sb p a b u v=true↔u=v∨¬ CD p u v (b-a):=by
 obtain⟨gy,iY,rN,rO,FF,FG,CR,u8⟩:=hu
 obtain⟨v1,v2,iZ,v4,vh,v6,Wb,aAw⟩:=az
 obtain⟨d1,d2,d3⟩:=Qt h (i:=u.str) (j:=v.str) ⟨gy,iY⟩ ⟨v1,v2⟩
 have hJ:qL (rv p u a) (rv p v b)=qe p u.str v.str:=rfl
 have cR:((rv p v b).ec-(rv p u a).ec) % ((qe p u.str v.str:Nat):Int)=(v.ec-u.ec+(b-a)) % ((qe p u.str v.str:Nat):Int):=by
  show((v.ec+b) % bT p v.str-(u.ec+a) % bT p u.str) % _=_
  rw[emod_sub_emod _ _ _ _ _ d2 d1]
  congr 1;omega
 have J:CC (rv p u a) (rv p v b)=true↔CD p u v (b-a):=by
  unfold CC CD
  rw[hJ,cR]
  simp only[fe,pC,oi,ho]
  constructor
  ·rintro⟨_,a3,a7⟩;exact⟨a3,a7⟩
  ·rintro⟨a3,a7⟩
   refine⟨fun e=>?_,a3,a7⟩
   rw[← cR,e,Int.sub_self,O9]at a3
   omega
 unfold sb
 rw[uy,ho,pC,← F7,J]
theorem PN{i j a b cb bS:Int}(aF:∀ G:Int,G ∣ bT p i→G ∣ bT p j→(b-a) % G=(bS-cb) % G):mK p i a j b→mK p i cb j bS:=by
 rw[GC,GC]
 rintro⟨x,y,u,v,ad,ag,aJ,rfl,rfl,fQ,hP⟩
 have hu:=h.use u (gp ad)
 have az:=h.use v (gp ag)
 refine⟨x,y,u,v,ad,ag,aJ,rfl,rfl,fQ,?_⟩
 rw[Pz h hu az]at hP ⊢
 rcases hP with hP|hP
 ·exact .inl hP
 ·right
  obtain⟨d1,d2,_⟩:=Qt h (i:=u.str) (j:=v.str) ⟨hu.1,hu.2.1⟩ ⟨az.1,az.2.1⟩
  have e:(v.ec-u.ec+(b-a)) % ((qe p u.str v.str:Nat):Int)=(v.ec-u.ec+(bS-cb)) % ((qe p u.str v.str:Nat):Int):=by
   rw[Int.add_emod,aF _ d1 d2,← Int.add_emod]
  unfold CD at hP ⊢
  rwa[← e]
theorem axX{u v:fp}(hu:wO p u)(az:wO p v){d:Int}(J:CD p u v d):CD p v u (-d):=by
 obtain⟨gy,iY,rN,rO,FF,FG,CR,u8⟩:=hu
 obtain⟨v1,v2,iZ,v4,vh,v6,Wb,aAw⟩:=az
 obtain⟨d1,d2,d3⟩:=Qt h (i:=u.str) (j:=v.str) ⟨gy,iY⟩ ⟨v1,v2⟩
 have ay:qe p v.str u.str=qe p u.str v.str:=Nat.gcd_comm _ _
 unfold CD at J ⊢
 rw[ay,show u.ec-v.ec + -d = -(v.ec-u.ec+d) by omega]
 generalize v.ec-u.ec+d=e at *
 have hJ:(0:Int)<((qe p u.str v.str:Nat):Int):=by omega
 generalize ((qe p u.str v.str:Nat):Int)=G at *
 have e7:=nG e (show G≠0 by omega)
 have aT:=l5 e hJ
 have eo:(-e) % G=G-e % G:=by
  have ag:(-e) % G=(G-e % G) % G:=by
   have:-e=(G-e % G)+G*(-(e / G)-1):=by
    have vO:e % G=e-G*(e / G):=Int.emod_def e G
    rw[Int.mul_sub,Int.mul_neg,Int.mul_one];omega
   rw[this,Int.add_mul_emod_self_left]
  rw[ag,J1 (by omega) (by omega)]
 rw[eo]
 omega
theorem XF{i j a b:Int}:mK p i a j b→mK p j b i a:=by
 rw[GC,GC]
 rintro⟨x,y,u,v,ad,ag,aJ,rfl,rfl,fQ,hP⟩
 have hu:=h.use u (gp ad)
 have az:=h.use v (gp ag)
 refine⟨y,x,v,u,ag,ad,Ne.symm aJ,rfl,rfl,fQ.symm,?_⟩
 rw[Pz h hu az]at hP
 rw[Pz h az hu]
 rcases hP with hP|hP
 ·exact .inl hP.symm
 ·exact .inr fun J=>hP (by
   have:=axX h az hu J
   rwa[show -(a-b)=b-a by omega]at this)
theorem ai5{i x j y:Int}(hi:0≤i∧i<p.aK.length):kj p i x j y=true↔mK p i x j y:=by
 have e:kj p i x j y=true↔mK p i ((x-y) % bT p i) j 0:=Iff.rfl
 rw[e]
 have key:∀ G:Int,G ∣ bT p i→G ∣ bT p j→(0-(x-y) % bT p i) % G=(y-x) % G:=fun G cg _=>by
  rw[Kg,F4 _ cg,← Kg];congr 1;omega
 exact⟨PN h key,PN h fun G cg c5=>(key G cg c5).symm⟩
end
theorem axx(p:b7)(b j:Int):∀(l:List Int) (i:Nat),yw p b j i l=true↔∃(n:Nat) (a:Int),l[n]? = some a∧mK p ((i+n:Nat):Int) a j b:=by
 intro l
 induction l with
 | nil=>intro i;simp[yw]
 | cons a l au =>
  intro i
  rw[yw,uy,au]
  constructor
  ·rintro(h|⟨n,v,ad,ag⟩)
   ·exact⟨0,a,rfl,h⟩
   ·exact⟨n+1,v,by simpa using ad,by rw[show i+(n+1)=i+1+n by omega];exact ag⟩
  ·rintro⟨n,v,ad,ag⟩
   cases n with
   | zero =>
    simp only[lG,Option.some.injEq]at ad
    subst ad
    exact .inl ag
   | succ n=>exact .inr ⟨n,v,by simpa using ad,by rw[show i+1+n=i+(n+1) by omega];exact ag⟩
theorem aji(p:b7)(L:List Int):∀(l:List Int) (j:Nat),nN p L j l=true↔∃(n:Nat) (b:Int),l[n]? = some b∧∃(m:Nat) (a:Int),m≤j+n∧L[m]? = some a∧mK p (m:Nat) a ((j+n:Nat):Int) b:=by
 intro l
 induction l with
 | nil=>intro i;simp[nN]
 | cons b l au =>
  intro j
  rw[nN,uy,au,axx]
  constructor
  ·rintro(⟨n,a,ad,ag⟩|⟨n,v,ad,m,a,ag,aJ,bL⟩)
   ·rw[l4]at ad
    split at ad
    ·exact⟨0,b,rfl,n,a,by omega,ad,by simpa using ag⟩
    ·cases ad
   ·exact⟨n+1,v,by simpa using ad,m,a,by omega,aJ,by rw[show j+(n+1)=j+1+n by omega];exact bL⟩
  ·rintro⟨n,v,ad,m,a,ag,aJ,bL⟩
   cases n with
   | zero =>
    simp only[lG,Option.some.injEq]at ad
    subst ad
    left
    exact⟨m,a,by rw[l4,a6 (by omega)];exact aJ,by simpa using bL⟩
   | succ n=>exact .inr ⟨n,v,by simpa using ad,m,a,by omega,aJ,by rw[show j+1+n=j+(n+1) by omega];exact bL⟩
def zr(p:b7)(l:List Int):Prop:=∀(m n:Nat) (a b:Int),m≤n→l[m]? = some a→l[n]? = some b→¬ mK p (m:Nat) a (n:Nat) b
theorem Qg(p:b7)(l:List Int):nN p l 0 l=false↔zr p l:=by
 rw[← F7,aji]
 constructor
 ·intro h m n a b BD ae ab af
  exact h ⟨n,b,ab,m,a,by omega,ae,by simpa using af⟩
 ·rintro h ⟨n,b,ab,m,a,BD,ae,af⟩
  exact h m n a b (by omega) ae ab (by simpa using af)
def wu(p:b7)(g:List Int):Prop:=∀(j:Nat) v,g[j]? = some v→0≤v∧v<bT p (j:Nat)
theorem ak6{step:Nat→List c3→dQ (List c3) hU}{r:hU}:∀(m x:Nat) (aH:List c3),gJ (fun x (_:Unit) s=>step x s) hU.no x (List.replicate m ()) aH=r→(∃ q,r=.no q)∨∃ eX q,x≤eX∧eX<x+m∧step eX q=.out r:=by
 intro m
 induction m with
 | zero=>intro x aH h;exact .inl ⟨aH,h.symm⟩
 | succ m au =>
  intro x aH h
  rw[pB]at h
  cases J:step x aH with
  | go q =>
   rw[ng (s':=q) J]at h
   rcases au _ _ h with h|⟨eX,ju,ad,ag,aJ⟩
   ·exact .inl h
   ·exact .inr ⟨eX,ju,by omega,by omega,aJ⟩
  | out qG=>rw[q3 (r:=qG) J]at h;subst h;exact .inr ⟨x,aH,by omega,by omega,J⟩
theorem aem(p:b7)(i x:Int)(hi:0≤i):∀(l:List Int) (k:Nat),(qJ p i x k l = -1∧(∀(n:Nat) y,l[n]? = some y→kj p i x ((k+n:Nat):Int) y=false)∧kj p i x i x=false) ∨
  (∃(n:Nat) (y:Int),l[n]? = some y∧qJ p i x k l=((k+n:Nat):Int)∧kj p i x ((k+n:Nat):Int) y=true)∨(qJ p i x k l=i∧kj p i x i x=true):=by
 intro l
 induction l with
 | nil =>
  intro k
  unfold qJ
  cases h:kj p i x i x with
  | true=>rw[a6 rfl];exact .inr (.inr ⟨rfl,rfl⟩)
  | false=>rw[a2 (by simp)];exact .inl ⟨rfl,fun n y ar=>by simp at ar,rfl⟩
 | cons y l au =>
  intro k
  unfold qJ
  cases h:kj p i x (k:Nat) y with
  | true=>rw[a6 rfl];exact .inr (.inl ⟨0,y,rfl,rfl,h⟩)
  | false =>
   rw[a2 (by simp)]
   rcases au (k+1)with⟨a,b,c⟩|⟨n,z,a,b,c⟩|a
   ·refine .inl ⟨a,fun n z bl=>?_,c⟩
    cases n with
    | zero=>simp only[lG,Option.some.injEq]at bl;subst bl;exact h
    | succ n=>rw[show k+(n+1)=k+1+n by omega];exact b n z (by simpa using bl)
   ·exact .inr (.inl ⟨n+1,z,by simpa using a,by rw[b];congr 1;omega,by rw[show k+(n+1)=k+1+n by omega];exact c⟩)
   ·exact .inr (.inr a)
section
variable{p:b7}(h:jt p)
include h
theorem adp{g:List Int}(ay:g.length<p.aK.length):1≤hb p g∧((hb p g:Nat):Int)≤bT p (g.length:Nat):=by
 obtain⟨cN,db⟩:=oF p h (s:=(g.length:Nat)) ⟨by omega,by omega⟩
 unfold hb
 split<;>omega
theorem ael{g:List Int}{x:Int}(ay:g.length<p.aK.length):qJ p (g.length:Nat) x 0 g = -1↔(∀(n:Nat) y,g[n]? = some y→¬ mK p (g.length:Nat) x (n:Nat) y)∧¬ mK p (g.length:Nat) x (g.length:Nat) x:=by
 have hi:(0:Int)≤(g.length:Nat)∧((g.length:Nat):Int)<p.aK.length:=by omega
 have af:=fun(j y:Int)=>ai5 h (x:=x) (j:=j) (y:=y) hi
 rcases aem p (g.length:Nat) x (by omega) g 0 with⟨a,b,c⟩|⟨n,y,a,b,c⟩|⟨a,b⟩
 ·refine⟨fun _=>⟨fun n y ar=>?_,?_⟩,fun _=>a⟩
  ·rw[← af,F7];simpa using b n y ar
  ·rw[← af,F7];exact c
 ·refine⟨fun e=>by rw[b]at e;omega,fun k=>absurd ((af _ _).1 c) (by have:=k.1 n y a;simpa using this)⟩
 ·refine⟨fun e=>by rw[a]at e;omega,fun k=>absurd ((af _ _).1 b) k.2⟩
theorem akW{g:List Int}{x:Int}(ay:g.length<p.aK.length)(aI:zr p g)(al:qJ p (g.length:Nat) x 0 g = -1):zr p (g++[x]):=by
 obtain⟨ad,ag⟩:=(ael h ay).1 al
 intro m n a b BD ae ab
 have aw:n≤g.length:=by have:=(cD.1 ab).1;simp at this;omega
 by_cases aE:n=g.length
 ·subst aE
  simp only[y0,Option.some.injEq]at ab
  subst ab
  by_cases hm:m=g.length
  ·subst hm
   simp only[y0,Option.some.injEq]at ae
   subst ae
   exact ag
  ·rw[fv (by omega)]at ae
   exact fun af=>ad m a ae (XF h af)
 ·rw[fv (by omega)]at ae ab
  exact aI m n a b BD ae ab
theorem adE{g:List Int}{x:Nat}(ay:g.length<p.aK.length)(an:wu p g)(U:x<hb p g):wu p (g++[((x:Nat):Int)]):=by
 have hm:=(adp h ay).2
 intro j v az
 by_cases aU:j<g.length
 ·rw[fv aU]at az;exact an j v az
 ·have rf:j=g.length:=by have:=(cD.1 az).1;simp at this;omega
  subst rf
  simp only[y0,Option.some.injEq]at az
  omega
theorem aki(bD:Nat):∀(k:Nat) (g:List Int) (aH:List c3) (hX:List Int) (b8:List c3),fx p bD k g aH=.yes hX b8→wu p g→zr p g→g.length+k=p.aK.length→wu p hX∧zr p hX∧hX.length=p.aK.length:=by
 intro k
 induction k with
 | zero=>intro g aH hX b8 he;cases he
 | succ k au =>
  intro g aH hX b8 he an aI ao
  rw[fx]at he
  split at he
  ·cases he
  ·generalize eA:gJ (fun x (_:Unit) b8=>ep p (decide (k=0)) (fx p bD k) aH.length g x b8) hU.no 0 (List.replicate (hb p g) ()) (aH++[⟨(g.length:Nat),[]⟩])=F at he
   cases F with
   | lq=>cases he
   | no q=>cases he
   | yes c5 a7 =>
    cases he
    rcases ak6 (step:=fun x b8=>ep p (decide (k=0)) (fx p bD k) aH.length g x b8) _ _ _ eA with⟨q,aE⟩|⟨x,q,_,U,J⟩
    ·cases aE
    ·simp only[ep]at J
     split at J
     ·rename_i al
      have aC:=adE h (by omega) an (show x<hb p g by omega)
      have Zs:=akW h (by omega) aI al
      split at J
      ·rename_i o1
       rw[ho]at o1
       cases J
       exact⟨aC,Zs,by simp;omega⟩
      ·split at J
       ·cases J
       ·simp only[dQ.out.injEq]at J
        exact au _ _ _ _ J aC Zs (by simp;omega)
     ·cases J
theorem akg(bD:Nat)(o:List Int)(aC:wu p o)(aI:zr p o)(ao:o.length=p.aK.length)(bo:o[0]? = some 0):∀(k:Nat) (g:List Int) (aH b8:List c3),g=o.take g.length→1≤k→g.length+k=p.aK.length→fx p bD k g aH≠.no b8:=by
 intro k
 induction k with
 | zero=>intro g aH b8 _ an;omega
 | succ k au =>
  intro g aH b8 ay _ eC he
  rw[fx]at he
  split at he
  ·cases he
  ·generalize eA:gJ (fun x (_:Unit) b8=>ep p (decide (k=0)) (fx p bD k) aH.length g x b8) hU.no 0 (List.replicate (hb p g) ()) (aH++[⟨(g.length:Nat),[]⟩])=F at he
   cases F with
   | lq=>cases he
   | yes hX q=>cases he
   | no q =>
    have hi:g.length<o.length:=by omega
    have U:o[g.length]? = some o[g.length]:=fC hi
    obtain⟨p6,dW⟩:=aC _ _ U
    generalize o[g.length]=vn at *
    have iD:g++[vn]=o.take (g.length+1):=by rw[r3,U,← ay];rfl
    have Zz:∀(n:Nat) y,g[n]? = some y→o[n]? = some y∧n<g.length:=fun n y ar=>by
     have aw:=(cD.1 ar).1
     refine⟨?_,aw⟩
     rw[ay,l4]at ar
     rwa[a6 aw]at ar
    have al:qJ p (g.length:Nat) vn 0 g = -1:=(ael h (by omega)).2 ⟨fun n y ar af=>aI n g.length y vn (by have:=(Zz n y ar).2;omega) (Zz n y ar).1 U (XF h af),aI g.length g.length vn vn (bP _) U U⟩
    have aaf:vn.toNat<hb p g:=by
     unfold hb
     split
     ·rename_i aw
      subst aw
      simp only[lF]at U
      rw[bo]at U
      cases U
      simp
     ·omega
    have bK:=GV (step:=fun x b8=>ep p (decide (k=0)) (fx p bD k) aH.length g x b8) (N:=hb p g) (fun x _=>x≤vn.toNat)
     (fun x q ju _ hi J=>by
      by_cases o7:x=vn.toNat
      ·subst o7
       have x1:((vn.toNat:Nat):Int)=vn:=by omega
       simp only[ep,x1]at J
       rw[a6 al]at J
       split at J
       ·cases J
       ·rename_i o1
        rw[ho]at o1
        split at J
        ·rename_i a7 h6
         exact absurd h6 (au (g++[vn]) q a7 (by rw[gT];exact iD) (by omega) (by simp;omega))
        ·cases J
      ·omega) (fun x q r J=>JA J) _ 0 _ (by omega) (by omega) eA
    omega
theorem akX{o:List Int}(aC:wu p o)(aI:zr p o)(ao:o.length=p.aK.length)(eo:1≤p.aK.length):∃ cC,wu p cC∧zr p cC∧cC.length=p.aK.length∧cC[0]? = some 0:=by
 have U:o[0]? = some o[0]:=fC (by omega)
 generalize o[0]=z at *
 have bx:∀(n:Nat) y,(o.zipIdx.map fun q=>(q.1-z) % bT p (q.2:Nat))[n]? = some y→∃ w,o[n]? = some w∧y=(w-z) % bT p (n:Nat):=fun n y ar=>by
  rw[eE,List.getElem?_zipIdx]at ar
  cases hw:o[n]? with
  | none=>rw[hw]at ar;simp at ar
  | some w=>rw[hw]at ar;simp at ar;exact⟨w,rfl,ar.symm⟩
 have kH:∀(n:Nat) w,o[n]? = some w→1≤bT p (n:Nat):=fun n w hw=>(oF p h (s:=(n:Nat)) ⟨by omega,by have:=(cD.1 hw).1;omega⟩).1
 refine⟨o.zipIdx.map fun q=>(q.1-z) % bT p (q.2:Nat),?_,?_,by simp[ao],?_⟩
 ·intro j v az
  obtain⟨w,hw,rfl⟩:=bx j v az
  have:=kH j w hw
  exact⟨nG _ (by omega),l5 _ (by omega)⟩
 ·intro m n a b BD ae ab
  obtain⟨w,hw,rfl⟩:=bx m a ae
  obtain⟨w',je,rfl⟩:=bx n b ab
  intro af
  refine aI m n w w' BD hw je (PN h (fun G cg c5=>?_) af)
  rw[emod_sub_emod _ _ _ _ _ c5 cg]
  congr 1;omega
 ·rw[eE,List.getElem?_zipIdx,U]
  simp
theorem ayB{bD:Nat}{aH:List c3}(aw:1≤p.aK.length)(he:fx p bD p.aK.length [] []=.no aH){o:List Int}(aC:wu p o)(ao:o.length=p.aK.length):nN p o 0 o=true:=by
 cases af:nN p o 0 o with
 | true=>rfl
 | false =>
  obtain⟨cC,ad,ag,aJ,bL⟩:=akX h aC ((Qg p o).1 af) ao aw
  exact absurd he (akg h bD cC ad ag aJ bL _ [] [] aH rfl aw (by simp))
theorem aeK{bD:Nat}{g:List Int}{aH:List c3}(he:fx p bD p.aK.length [] []=.yes g aH):wu p g∧nN p g 0 g=false∧g.length=p.aK.length:=by
 obtain⟨a,b,c⟩:=aki h bD _ [] [] g aH he (fun j v az=>by simp at az) (fun m n a b _ ae=>by simp at ae) (by simp)
 exact⟨a,(Qg p g).2 b,c⟩
end
def qZ:Int→List eK→Int→Prop
 | s,[],e=>s=e
 | s,a::r,e=>a.ec=s∧a.ec<a.jH∧qZ a.jH r e
theorem PO:∀(l:List eK) (s e:Int) (a:eK),qZ s l e→a.ec=e→a.ec<a.jH→qZ s (l++[a]) a.jH:=by
 intro l
 induction l with
 | nil=>intro s e a h ad ag;simp only[qZ]at h;exact⟨by rw[ad,h],ag,rfl⟩
 | cons b l au=>intro s e a h ad ag;exact⟨h.1,h.2.1,au _ _ a h.2.2 ad ag⟩
theorem XH:∀(l:List eK) (s e:Int) (b:eK),qZ s (l++[b]) e→b.jH=e∧b.ec<b.jH∧∀ z,e≤z→qZ s (l++[{ b with jH:=z }]) z:=by
 intro l
 induction l with
 | nil=>intro s e b h;simp only[ea,qZ]at h;exact⟨h.2.2,h.2.1,fun z bl=>⟨h.1,by simp only;omega,rfl⟩⟩
 | cons c l au=>intro s e b h;obtain⟨a3,a7,cz⟩:=au _ _ b h.2.2;exact⟨a3,a7,fun z bl=>⟨h.1,h.2.1,cz z bl⟩⟩
theorem ai4:∀(l:List eK) (s e:Int),qZ s l e→(l.length:Int)≤e-s∧∀ a∈l,s≤a.ec∧a.ec<a.jH∧a.jH≤e:=by
 intro l
 induction l with
 | nil=>intro s e h;simp only[qZ]at h;subst h;simp
 | cons a l au =>
  intro s e h
  obtain⟨ad,ag,aJ⟩:=h
  obtain⟨i1,i2⟩:=au _ _ aJ
  have ao:(0:Int)≤(l.length:Nat):=by omega
  refine⟨by rw[jc];omega,fun b ab=>?_⟩
  rcases iu.1 ab with rfl|ab
  ·omega
  ·have:=i2 b ab;omega
theorem EN(l:List eK)(a:eK):(js l a=l++[a])∨∃ gg b,l=gg++[b]∧0≤a.dX∧b.dX=a.dX∧js l a=gg++[{ b with jH:=a.jH }]:=by
 unfold js
 cases ay:l.getLast? with
 | none =>
  have:l=[]:=by simpa using ay
  subst this
  exact .inl rfl
 | some b =>
  have ao:l=l.dropLast++[b]:=by
   have eo:l≠[]:=by intro e;rw[e]at ay;simp at ay
   have:=WS eo
   rw[List.getLast?_eq_some_getLast eo,Option.some.injEq]at ay
   rw[ay]at this
   exact this.symm
  simp only
  split
  ·rename_i af
   exact .inr ⟨l.dropLast,b,ao,af.1,af.2,rfl⟩
  ·exact .inl rfl
def jd(n:Int)(l:List eK):Nat:=l.countP fun a=>decide (a.dX = -1∧a.jg=n)
def ht(q:List c3)(n:Int):Nat:=(q.map fun c=>jd n c.bM).sum
theorem ai9(n:Int)(l:List eK)(a:eK):jd n (js l a)=jd n l+if a.dX = -1∧a.jg=n then 1 else 0:=by
 rcases EN l a with h|⟨gg,b,rfl,ad,ag,aJ⟩
 ·rw[h,jd,jd,Gg,J6]
  simp only[ho]
 ·rw[aJ,jd,jd,Gg,Gg,J6,J6]
  simp only[ho]
  simp[show ¬ (b.dX = -1) by omega,show ¬ (a.dX = -1) by omega]
theorem PQ{q:List c3}{i:Nat}{c:c3}(af:q[i]? = some c)(n:Int)(a:eK):ht (kQ q i a) n=ht q n+if a.dX = -1∧a.jg=n then 1 else 0:=by
 unfold kQ
 rw[af]
 simp only
 unfold ht
 have key:∀(q:List c3) (i:Nat),q[i]? = some c→((q.set i { c with bM:=js c.bM a }).map fun c=>jd n c.bM).sum=(q.map fun c=>jd n c.bM).sum+if a.dX = -1∧a.jg=n then 1 else 0:=by
  intro q
  induction q with
  | nil=>intro i h;simp at h
  | cons d q au =>
   intro i h
   cases i with
   | zero =>
    simp only[lG,Option.some.injEq]at h
    subst h
    rw[AO,gz,gz,y8,y8,ai9]
    omega
   | succ i =>
    rw[w8,gz,gz,y8,y8,au i (by simpa using h)]
    omega
 exact key q i af
theorem ajd(q:List c3)(s:Int)(n:Int):ht (q++[⟨s,[]⟩]) n=ht q n:=by
 unfold ht
 rw[ux,O5]
 simp[jd]
def sa(g:List Int):List Int:=g++List.replicate (12-g.length) (-1)
theorem ag7{g:List Int}{x:Int}(h:g.length<12):(sa g).set g.length x=sa (g++[x]):=by
 unfold sa
 obtain⟨k,an⟩:∃ k,12-g.length=k+1:=⟨11-g.length,by omega⟩
 rw[an,pB,AM _ _ (bP _),nC,AO,fU,gT,vy,show 12-(g.length+1)=k by omega]
 rfl
theorem ag9{g:List Int}(h:g.length<12):(sa g)[g.length]? = some (-1):=by
 unfold sa
 rw[g5 (bP _),nC,s7,a6 (by omega)]
theorem ag8{g:List Int}{n:Nat}{y:Int}(h:g[n]? = some y):(sa g)[n]? = some y:=by
 unfold sa
 rw[fv (cD.1 h).1,h]
def DO(G:List Int)(s:Int):Int:=G[s.toNat]?.getD (-1)
def Jh(p:b7)(s:Int)(G:List Int)(a:eK):Prop:=(a.dX=s∨DO G a.dX ≠ -1)∧∀ x,a.ec≤x→x<a.jH→kj p s x a.dX (if a.dX=s then x else DO G a.dX)=true
inductive w4(p:b7)(F:List c3):Nat→List Int→Prop
 | mk (c:Nat) (G:List Int) (x:c3) (U:F[c]? = some x) (bo:G[x.str.toNat]? = some (-1)) (J:0≤x.str∧x.str<p.aK.length)
  (ad:∀ a∈x.bM,a.dX = -1→w4 p F a.jg.toNat (G.set x.str.toNat a.ec)) (ag:∀ a∈x.bM,0≤a.dX→Jh p x.str G a):w4 p F c G
def VH(P n c:Nat)(a:eK):Prop:=(a.dX = -1∧a.jH=a.ec+1∧(c:Int)<a.jg∧a.jg<n)∨(a.jg=0∧a.dX = -2∧c=0∧a.ec≠0)∨(a.jg=0∧0≤a.dX∧a.dX<P)
theorem axG{P n n' c:Nat}{a:eK}(h:n≤n')(al:VH P n c a):VH P n' c a:=by
 rcases al with⟨cJ,cU,dU,gA⟩|a|a
 ·exact .inl ⟨cJ,cU,dU,by omega⟩
 ·exact .inr (.inl a)
 ·exact .inr (.inr a)
def x5(l:List eK):Prop:=l.Pairwise fun a b=>a.dX = -1→b.dX = -1→a.jg<b.jg
theorem Ut{l:List eK}{a:eK}(h:x5 l)(ae:∀ b∈l,b.dX = -1→a.dX = -1→b.jg<a.jg):x5 (l++[a]):=by
 unfold x5
 rw[F5]
 exact⟨h,J5 _ _,fun b ab c af=>by simp only[kA]at af;subst af;exact ae b ab⟩
theorem arz{l:List eK}{b:eK}(h:x5 (l++[b]))(z:Int):x5 (l++[{ b with jH:=z }]):=by
 unfold x5 at h ⊢
 rw[F5]at h ⊢
 exact⟨h.1,J5 _ _,fun c af d aF=>by simp only[kA]at aF;subst aF;exact h.2.2 c af b (by simp)⟩
def Ba(p:b7)(n c:Nat)(x:c3):Prop:=(0≤x.str∧x.str<p.aK.length)∧qZ 0 x.bM (bT p x.str)∧(∀ a∈x.bM,VH p.aK.length n c a)∧x5 x.bM
theorem aiT{p:b7}{n n' c:Nat}{x:c3}(h:n≤n')(U:Ba p n c x):Ba p n' c x:=⟨U.1,U.2.1,fun a ae=>axG h (U.2.2.1 a ae),U.2.2.2⟩
def Gt(p:b7)(g:List Int)(at_:Nat)(q:List c3)(a:eK):Prop :=
 (a.dX = -1∧a.jH=a.ec+1∧∃ lo hi:Nat,a.jg=(lo:Nat)∧at_<lo∧lo<hi∧hi≤q.length∧∀ F:List c3,(∀ c,lo≤c→c<hi→F[c]? = q[c]?)→w4 p F lo (sa (g++[a.ec]))) ∨
 (a.jg=0∧0≤a.dX∧a.dX<p.aK.length∧Jh p (g.length:Nat) (sa g) a)
theorem Xh{p:b7}{g:List Int}{at_:Nat}{q ju:List c3}{a:eK}(ao:q.length≤ju.length)(aE:∀ c,at_<c→c<q.length→ju[c]? = q[c]?)(h:Gt p g at_ q a):Gt p g at_ ju a:=by
 rcases h with⟨cJ,cU,lo,hi,dU,gA,lI,zd,De⟩|h
 ·exact .inl ⟨cJ,cU,lo,hi,dU,gA,lI,by omega,fun F eA=>De F fun c c1 c2=>by rw[eA c c1 c2,aE c (by omega) (by omega)]⟩
 ·exact .inr h
structure OD(p:b7)(g:List Int)(aH:List c3)(x:Nat)(q:List c3):Prop where
 len:aH.length<q.length
 at_:∃ bM,q[aH.length]? = some ⟨(g.length:Nat),bM⟩∧qZ 0 bM (x:Nat)∧(∀ a∈bM,Gt p g aH.length q a)∧x5 bM
 br:∀ c y,aH.length<c→q[c]? = some y→Ba p q.length c y
 oT:∀ n:Int,ht q n=ht aH n+if(aH.length:Int)<n∧n<(q.length:Nat)then 1 else 0
theorem ac5{p:b7}{g:List Int}{aH:List c3}{x:Nat}{q:List c3}(h:OD p g aH x q)(eB:g.length<p.aK.length)(a:eK)(ad:a.ec=(x:Nat))(ag:a.jH=(x+1:Nat))(aJ:a.jg=0∧0≤a.dX∧a.dX<p.aK.length∧Jh p (g.length:Nat) (sa g) a):OD p g aH (x+1) (kQ q aH.length a):=by
 obtain⟨ao,⟨bM,ae,af,al,Bu⟩,dY,Hk⟩:=h
 have bx:∀ c,aH.length<c→(kQ q aH.length a)[c]? = q[c]?:=fun c af=>A0 (by omega)
 have Lw:∀ b,Gt p g aH.length q b→Gt p g aH.length (kQ q aH.length a) b:=fun b ab=>Xh (by rw[ke];omega) (fun c c1 _=>bx c c1) ab
 refine⟨by rw[ke];exact ao,⟨js bM a,Di ae,?_,?_,?_⟩,fun c y af ar=>?_,fun n=>?_⟩
 ·rcases EN bM a with e|⟨gg,b,rfl,cN,db,e⟩
  ·rw[e,show((x+1:Nat):Int)=a.jH from ag.symm];exact PO _ _ _ a af ad (by omega)
  ·rw[e,ag];exact(XH _ _ _ b af).2.2 _ (by omega)
 ·intro b ab
  rcases EN bM a with e|⟨gg,bS,rfl,cN,db,e⟩
  ·rw[e]at ab
   rcases hp.1 ab with ab|ab
   ·exact Lw b (al b ab)
   ·simp only[kA]at ab;subst ab;exact .inr aJ
  ·rw[e]at ab
   rcases hp.1 ab with ab|ab
   ·exact Lw b (al b (by simp[ab]))
   ·simp only[kA]at ab
    subst ab
    have cS:=al bS (by simp)
    have j3:=XH _ _ _ bS af
    right
    rcases cS with⟨bB,_⟩|⟨bB,aO,ed,gb,lT⟩
    ·omega
    ·refine⟨bB,aO,ed,gb,fun y m7 Oq=>?_⟩
     by_cases ar:y<bS.jH
     ·exact lT y m7 ar
     ·have:=aJ.2.2.2.2 y (by have:=j3.1;omega) Oq
      simp only at this ⊢
      rw[db]
      exact this
 ·rcases EN bM a with e|⟨gg,bS,rfl,cN,db,e⟩
  ·rw[e];exact Ut Bu fun b ab bB aO=>by omega
  ·rw[e];exact arz Bu _
 ·rw[ke];rw[bx c af]at ar;exact dY c y af ar
 ·rw[PQ ae,Hk,ke,a2 (show ¬ (a.dX = -1∧a.jg=n) by omega)];omega
section
variable{p:b7}(h:jt p)
include h
theorem akh(bD:Nat):∀(k:Nat) (g:List Int) (aH b8:List c3),fx p bD k g aH=.no b8→g.length+k=p.aK.length→wu p g→(g=[]→aH=[]) →
  (∀ F:List c3,(∀ c,aH.length≤c→c<b8.length→F[c]? = b8[c]?)→w4 p F aH.length (sa g))∧(∀ c y,aH.length≤c→b8[c]? = some y→Ba p b8.length c y) ∧
  (∀ n:Int,ht b8 n=ht aH n+if(aH.length:Int)<n∧n<(b8.length:Nat)then 1 else 0)∧aH.length≤bD:=by
 intro k
 induction k with
 | zero=>intro g aH b8 he;cases he
 | succ k au =>
  intro g aH b8 he ao an qi
  have eB:=h.len
  have eT:g.length<p.aK.length:=by omega
  rw[fx]at he
  split at he
  ·cases he
  ·rename_i ni
   generalize eA:gJ (fun x (_:Unit) b8=>ep p (decide (k=0)) (fx p bD k) aH.length g x b8) hU.no 0 (List.replicate (hb p g) ()) (aH++[⟨(g.length:Nat),[]⟩])=F at he
   cases F with
   | lq=>cases he
   | yes hX q=>cases he
   | no q =>
    have bK:=GV (step:=fun x b8=>ep p (decide (k=0)) (fx p bD k) aH.length g x b8) (N:=hb p g) (OD p g aH)
     (fun x q ju aaf hi J=>by
      have ck:=adE h eT an aaf
      simp only[ep]at J
      split at J
      ·split at J
       ·cases J
       ·split at J
        ·rename_i LH o1 a3 al
         simp only[dQ.go.injEq]at J
         subst J
         obtain⟨i1,i2,i3,_⟩:=au _ _ _ al (by simp;omega) ck (fun e=>by simp at e)
         obtain⟨uY,ry⟩:=KN p bD _ _ _ _ al
         obtain⟨j3,⟨bM,ae,af,DV,Bu⟩,dY,Hk⟩:=hi
         have xz:a3[aH.length]? = some ⟨(g.length:Nat),bM⟩:=by rw[ry _ j3];exact ae
         obtain⟨A,hI⟩:∃ A:eK,A=⟨(x:Nat),(x+1:Nat),-1,(q.length:Nat)⟩:=⟨_,rfl⟩
         rw[← hI]
         have bx:∀ c,aH.length<c→(kQ a3 aH.length A)[c]? = a3[c]?:=fun c af=>A0 (by omega)
         have Bx:js bM A=bM++[A]:=by
          rcases EN bM A with e|⟨gg,b,_,cN,_⟩
          ·exact e
          ·rw[hI]at cN;simp at cN
         refine⟨by rw[ke];omega,⟨js bM A,Di xz,?_,fun b ab=>?_,?_⟩,fun c y af ar=>?_,fun n=>?_⟩
         ·rw[Bx,hI];exact PO _ _ _ _ af rfl (by simp only;omega)
         ·rw[Bx]at ab
          rcases hp.1 ab with ab|ab
          ·exact Xh (by rw[ke];omega) (fun c c1 c2=>by rw[bx c c1,ry c c2]) (DV b ab)
          ·simp only[kA]at ab
           subst ab
           rw[hI]
           exact .inl ⟨rfl,by simp only;omega,q.length,a3.length,rfl,j3,uY,by rw[ke];omega,fun F eA=>i1 F fun c c1 c2=>by rw[eA c c1 c2,← hI,bx c (by omega)]⟩
         ·rw[Bx]
          refine Ut Bu fun b ab bB aO=>?_
          rcases DV b ab with⟨_,_,lo,hi,fR,gR,pa,Nb,_⟩|⟨_,gR,_⟩
          ·rw[fR,hI];simp only;omega
          ·omega
         ·rw[ke]
          rw[bx c af]at ar
          by_cases Re:c<q.length
          ·rw[ry c Re]at ar
           exact aiT (by omega) (dY c y af ar)
          ·exact i2 c y (by omega) ar
         ·rw[PQ xz,i3,Hk,ke,hI]
          simp only[zc]
          by_cases aT:n=(q.length:Nat)
          ·rw[a2 (by omega),a2 (by omega),a6 (by omega),a6 (by omega)]
          ·by_cases aW:n<(q.length:Nat)
           ·rw[a2 (show ¬ (((q.length:Nat):Int)<n∧n<(a3.length:Nat)) by omega),a2 (show ¬ ((q.length:Nat):Int)=n by omega)]
            by_cases bw:(aH.length:Int)<n
            ·rw[a6 ⟨bw,aW⟩,a6 ⟨bw,by omega⟩]
            ·rw[a2 (by omega),a2 (by omega)]
           ·rw[a2 (show ¬ ((aH.length:Int)<n∧n<(q.length:Nat)) by omega),a2 (show ¬ ((q.length:Nat):Int)=n by omega)]
            by_cases bw:n<(a3.length:Nat)
            ·rw[a6 (by omega),a6 (by omega)]
            ·rw[a2 (by omega),a2 (by omega)]
        ·cases J
      ·rename_i LH
       simp only[dQ.go.injEq]at J
       subst J
       have hf:(0:Int)≤(g.length:Nat):=by omega
       rcases aem p (g.length:Nat) (x:Nat) hf g 0 with⟨e,_⟩|⟨n,y,aT,aW,bw⟩|⟨aT,aW⟩
       ·exact absurd e LH
       ·have aw:=(cD.1 aT).1
        have ar:=an n y aT
        rw[nD]at aW bw
        refine ac5 hi eT _ rfl rfl ⟨rfl,by rw[aW];simp only;omega,by rw[aW];simp only;omega,?_⟩
        have re:DO (sa g) ((n:Nat):Int)=y:=by rw[DO,ld,ag8 aT];rfl
        refine⟨.inr (by simp only;rw[aW,re];omega),fun z jy jz=>?_⟩
        simp only at jy jz ⊢
        have bl:z=(x:Nat):=by omega
        rw[aW,a2 (by omega),re,bl]
        exact bw
       ·refine ac5 hi eT _ rfl rfl ⟨rfl,by rw[aT];simp only;omega,by rw[aT];simp only;omega,?_⟩
        refine⟨.inl (by simp only;rw[aT]),fun z jy jz=>?_⟩
        simp only at jy jz ⊢
        have bl:z=(x:Nat):=by omega
        rw[aT,a6 rfl,bl]
        exact aW) (fun x q r J=>JA J) _ 0 _ (by omega)
     ⟨by simp,⟨[],by simp,rfl,fun a ae=>by simp at ae,List.Pairwise.nil⟩,fun c y af ar=>by have:=(cD.1 ar).1;simp at this;omega,
      fun n=>by rw[ajd,a2 (by simp;omega)];omega⟩ eA
    obtain⟨j3,⟨bM,ae,af,DV,Bu⟩,dY,Hk⟩:=bK
    have aCj:=adp h eT
    -- yI choice at asg place,for a final list with A2
    have fin:∀(ju:List c3) (A2:List eK),ju.length=q.length→(∀ c,aH.length<c→ju[c]? = q[c]?)→ju[aH.length]? = some ⟨(g.length:Nat),A2⟩→qZ 0 A2 (bT p (g.length:Nat)) →
      (∀ a∈A2,a∈bM∨(a.jg=0∧a.dX = -2∧aH.length=0∧a.ec≠0))→(∀ n:Int,ht ju n=ht q n)→x5 A2 →
      (∀ F:List c3,(∀ c,aH.length≤c→c<ju.length→F[c]? = ju[c]?)→w4 p F aH.length (sa g))∧(∀ c y,aH.length≤c→ju[c]? = some y→Ba p ju.length c y) ∧
      (∀ n:Int,ht ju n=ht aH n+if(aH.length:Int)<n∧n<(ju.length:Nat)then 1 else 0):=by
     intro ju A2 aT aW bw cB bZ hW mL
     refine⟨fun F eA=>?_,fun c y ov ar=>?_,fun n=>by rw[hW,aT];exact Hk n⟩
     ·refine .mk _ _ ⟨(g.length:Nat),A2⟩ (by rw[eA _ (bP _) (by omega)];exact bw) (by simp only[ld];exact ag9 (by omega)) ⟨by simp only;omega,by simp only;omega⟩ (fun a nU ab=>?_) fun a nU ab=>?_
      ·rcases bZ a nU with hm|⟨_,hm,_⟩
       ·rcases DV a hm with⟨_,cU,lo,hi,dU,gA,lI,zd,De⟩|⟨_,aO,_⟩
        ·simp only[ld]
         rw[ag7 (by omega),dU,ld]
         exact De F fun c c1 c2=>by rw[eA c (by omega) (by omega),aW c (by omega)]
        ·omega
       ·omega
      ·rcases bZ a nU with hm|⟨_,hm,_⟩
       ·rcases DV a hm with⟨bB,_⟩|⟨_,_,_,gb⟩
        ·omega
        ·exact gb
       ·omega
     ·by_cases fq:c=aH.length
      ·subst fq
       rw[bw]at ar
       cases ar
       refine⟨⟨by simp only;omega,by simp only;omega⟩,cB,fun a nU=>?_,mL⟩
       rcases bZ a nU with hm|⟨fR,gR,pa,Nb⟩
       ·rcases DV a hm with⟨cJ,cU,lo,hi,dU,gA,lI,zd,De⟩|⟨bB,aO,ed,_⟩
        ·exact .inl ⟨cJ,cU,by omega,by omega⟩
        ·exact .inr (.inr ⟨bB,aO,ed⟩)
       ·exact .inr (.inl ⟨fR,gR,pa,Nb⟩)
      ·rw[aW c (by omega)]at ar
       rw[aT]
       exact dY c y (by omega) ar
    simp only[DG,hU.no.injEq]at he
    subst he
    split
    ·rename_i aB
     have ay:g=[]:=by
      unfold hb at aB
      split at aB
      ·assumption
      ·omega
     have h5:hb p g=1:=by unfold hb;rw[a6 ay]
     rw[h5]at aB af ⊢
     obtain⟨A,hI⟩:∃ A:eK,A=⟨((1:Nat):Int),bT p (g.length:Nat),-2,0⟩:=⟨_,rfl⟩
     rw[← hI]
     have Bx:js bM A=bM++[A]:=by
      rcases EN bM A with e|⟨gg,b,_,cN,_⟩
      ·exact e
      ·rw[hI]at cN;simp at cN
     obtain⟨b9,b3,cG⟩:=fin (kQ q aH.length A) (js bM A) (ke ..) (fun c af=>A0 (by omega)) (Di ae) (by rw[Bx];have:=PO bM 0 _ A af (by rw[hI]) (by rw[hI];exact aB);rwa[hI]at this ⊢)
      (fun a nU=>by
       rw[Bx]at nU
       rcases hp.1 nU with hm|hm
       ·exact .inl hm
       ·simp only[kA]at hm
        subst hm
        rw[hI]
        exact .inr ⟨rfl,rfl,by rw[qi ay];rfl,by simp⟩)
      (fun n=>by rw[PQ ae,a2 (by rw[hI];simp)];omega) (by rw[Bx];exact Ut Bu fun b ab bB aO=>by rw[hI]at aO;simp at aO)
     exact⟨b9,b3,cG,by omega⟩
    ·rename_i aB
     have h5:((hb p g:Nat):Int)=bT p (g.length:Nat):=by omega
     obtain⟨b9,b3,cG⟩:=fin q bM rfl (fun _ _=>rfl) ae (by rw[← h5];exact af) (fun a nU=>.inl nU) (fun _=>rfl) Bu
     exact⟨b9,b3,cG,by omega⟩
end
abbrev lX(f:Bool)(aH:List c3):T:=.aP f 2 (aH.map tf)
structure E2(p:b7)(aH:List c3):Prop where
 eh:1≤aH.length
 cx:aH.length≤2000
 br:∀ c x,aH[c]? = some x→Ba p aH.length c x
 oT:∀ n:Int,0<n→n<(aH.length:Nat)→ht aH n=1
theorem Dy{p:b7}(h:jt p){n c:Nat}{x:c3}(U:Ba p n c x):x.bM.length≤240∧∀ a∈x.bM,0≤a.ec∧a.ec<a.jH∧a.jH≤bT p x.str∧bT p x.str≤240:=by
 obtain⟨a,b⟩:=ai4 _ _ _ U.2.1
 obtain⟨cN,db⟩:=oF p h U.1
 exact⟨by omega,fun y ar=>by have:=b y ar;omega⟩
section
variable(c1 c2 f:Bool)(p:b7)(h:jt p)(aH:List c3)(av:E2 p aH)
include h av
theorem awZ(c:Nat)(x:c3)(U:aH[c]? = some x)(a:eK)(ae:a∈x.bM):a0 Tryz.prog pol 92 [g1 c1 c2 p,lX f aH,I (c:Nat),hq a]=some (B true):=by
 have ab:=(Dy h (av.br c x U)).2 a ae
 have fA:=av.cx
 have al:=(av.br c x U).2.2.1 a ae
 obtain⟨bQ,to,dX,ee⟩:=a
 simp only at ab
 rcases al with⟨cJ,cU,dU,gA⟩|⟨cJ,cU,dU,gA⟩|⟨cJ,cU,dU⟩
 ·simp only at cJ cU dU gA
  subst cJ cU
  have w:IntKind.i64.wrap (bQ+1)=bQ+1:=wrap_i64 (by omega) (by omega)
  have a3:decide (bQ+1=bQ+1)=true:=bY rfl
  have a7:decide ((c:Int)<ee)=true:=bY dU
  have cz:decide (ee<((aH.length:Nat):Int))=true:=bY gA
  refine cK 10 1 Uf (bH rfl) ?_
  (repeat' first|simp only[MT,go_sem,w,a3,a7,cz,bJ]|with_reducible first|refine aZ fun _=>?_|refine a1 ?_|fail)
 ·simp only at cJ cU gA
  subst cJ cU dU
  have a3:decide (bQ=0)=false:=bA gA
  refine cK 10 1 Uf (bH rfl) ?_
  (repeat' first|simp only[MT,go_sem,a3,bJ]|with_reducible first|refine aZ fun _=>?_|refine a1 ?_|fail)
 ·simp only at cJ cU dU
  subst cJ
  have a3:decide (dX = -1)=false:=bA (by omega)
  have a7:decide (dX = -2)=false:=bA (by omega)
  have cz:decide (0≤dX)=true:=bY cU
  have eJ:decide (dX<((p.aK.length:Nat):Int))=true:=bY dU
  refine cK 10 1 Uf (bH rfl) ?_
  (repeat' first|simp only[MT,go_sem,a3,a7,cz,eJ,bJ]|with_reducible first|refine aZ fun _=>?_|refine a1 ?_|fail)
theorem ag4(c:Nat)(x:c3)(U:aH[c]? = some x):a0 Tryz.prog pol 57 [g1 c1 c2 p,lX f aH,I (c:Nat)]=some (B true):=by
 have dY:=av.br c x U
 obtain⟨tq,iT⟩:=Dy h dY
 obtain⟨gj,_⟩:=wv (p:=p) dY.1
 have gy:=dY.1.1
 have jM:x.str.toNat<p.aK.length:=by have:=dY.1.2;omega
 have ou:(aH.map tf)[c]? = some (tf x):=by rw[eE,U];rfl
 have dx:c<aH.length:=(cD.1 U).1
 have an:=fun a ae=>awZ c1 c2 f p h aH av c x U a ae
 have mQ:=dY.2.1
 obtain⟨s,bM⟩:=x
 simp only at *
 have ow:bT p s≤240:=(oF p h dY.1).2
 refine cK 1000 1 aqF (bH rfl) ?_
 (repeat' first|simp only[TR,go_sem,ou,dx,gj,gy,jM,bJ]|with_reducible first|refine aZ fun _=>?_|refine a1 ?_|fail)
 refine hA bM hq (St:=fun i e ai=>∃ v,(e 1=.t (lX f aH)∧e 2=.t (I (c:Nat))∧e 3=.t (.ip (j4 c1 c2 p))∧e 7=.t (I (bT p s))∧e 8=.t (I v)∧e 24=.t (.aP false 4 (bM.map hq))∧e 25=.t (I (bM.length:Nat))∧e 26=.t (I (i:Nat)))∧ai=[]∧qZ v (bM.drop i) (bT p s))
  (Ex:=fun q e ai=>q=.exit 0∧(e 7=.t (I (bT p s))∧e 8=.t (I (bT p s)))∧ai=[]) (by omega) ?_ ?_ (by omega) ?_ ?_
 ·rintro i a e ai Y R hm hi v7 bx aB hw ⟨v,⟨s1,s2,a8,dE,dG,k6,pk,VL⟩,rfl,DY⟩ bW bk
  have pP:bM.drop i=a::bM.drop (i+1):=by
   rw[drop_cons hi]
   congr 1
   exact Option.some.inj ((fC hi).symm.trans v7)
  rw[pP]at DY
  obtain⟨v1,v2,iZ⟩:=DY
  have Ac:=an a hm
  have ab:=iT a hm
  obtain⟨bQ,to,dX,ee⟩:=a
  simp only at v1 v2 iZ ab
  subst v1
  have a3:decide (bQ=bQ)=true:=bY rfl
  have a7:decide (to≤bQ)=false:=bA (by omega)
  have cz:decide (bT p s<to)=false:=bA (by omega)
  (repeat' first|simp only[abV,MA,go_sem,s1,s2,a8,dE,dG,k6,pk,VL,aB,hw,bx,a3,a7,cz,Ac]|with_reducible first|refine aZ fun _=>?_|refine a1 ?_|fail)
  all_goals(refine bW _ _ ⟨to,?_,rfl,iZ⟩;simp only[go_sem,s1,s2,a8,dE,k6,pk,hw])
 ·rintro e ai Y R aB ⟨v,⟨s1,s2,a8,dE,dG,k6,pk,VL⟩,rfl,DY⟩ bk
  rw[y5 (bP _)]at DY
  simp only[qZ]at DY
  subst DY
  simp only[abV,MA,go_sem,s1,s2,a8,dE,dG,k6,pk,VL,aB]
  all_goals(refine bk _ _ _ ⟨rfl,?_,rfl⟩;simp only[go_sem,dE,dG])
 ·refine⟨0,?_,rfl,by rw[l6];exact mQ⟩
  simp only[go_sem]
 ·rintro q e ai ⟨rfl,⟨hP,mO⟩,rfl⟩
  have a3:decide (bT p s=bT p s)=true:=bY rfl
  simp only[TR,go_sem,hP,mO,a3]
end
theorem ajb{n:Int}{l:List eK}{j:Nat}{a:eK}(h:l[j]? = some a):jd n (l.take (j+1))=jd n (l.take j)+if a.dX = -1∧a.jg=n then 1 else 0:=by
 rw[r3,h]
 show jd n (l.take j++[a])=_
 unfold jd
 rw[Gg,J6]
 simp only[ho]
theorem XO{n:Int}{q:List c3}{c:Nat}{x:c3}(h:q[c]? = some x):ht (q.take (c+1)) n=ht (q.take c) n+jd n x.bM:=by
 rw[r3,h]
 show ht (q.take c++[x]) n=_
 unfold ht
 rw[ux,O5]
 simp
theorem ajc{n:Int}{q:List c3}(c:Nat):ht (q.take c) n≤ht q n:=by
 have:ht q n=ht (q.take c) n+ht (q.drop c) n:=by
  unfold ht
  rw[← O5,← ux,C6]
 omega
theorem aja{n:Int}{l:List eK}(j:Nat):jd n (l.take j)≤jd n l:=by
 have:jd n l=jd n (l.take j)+jd n (l.drop j):=by
  unfold jd
  rw[← Gg,C6]
 omega
structure u3(L:Nat)(f:Nat→Nat)(N:List Int):Prop where
 l:N.length=L
 v:∀ n,n<L→N[n]? = some ((f n:Nat):Int)
theorem at1{L:Nat}{f g:Nat→Nat}{N:List Int}{k:Nat}(h:u3 L f N)(an:k<L)(ay:∀ n,g n=f n+if n=k then 1 else 0):u3 L g (N.set k ((f k:Nat)+1:Int)):=by
 refine⟨by simp[h.l],fun n aw=>?_⟩
 by_cases e:n=k
 ·subst e
  rw[l7 (by rw[h.l];exact aw),ay,a6 rfl];rfl
 ·rw[iv (fun bs=>e bs.symm),h.v n aw,ay,a2 e];rfl
theorem U5{L:Nat}{f g:Nat→Nat}{N:List Int}(h:u3 L f N)(ay:∀ n,g n=f n):u3 L g N:=⟨h.l,fun n aw=>by rw[h.v n aw,ay]⟩
section
variable(c1 c2 fD:Bool)(p:b7)(h:jt p)(aH:List c3)(av:E2 p aH)
include h av
theorem atU(c:Nat)(x:c3)(U:aH[c]? = some x)(N:List Int)(aG:Nat)(bN:aG≤aH.length)(bG:u3 aH.length (fun n=>ht (aH.take c) (n:Nat)) N)(fT:eY)(aR:Nat)(aw:1000<aR)(R:cW→aM→aj→Prop)(e:aM)
  (he:e 1=.t (lX fD aH)∧e 2=.t (.ip (j4 c1 c2 p))∧e 5=.ms 0 aH.length 0 aH.length 1 true∧e 23=.t (lX fD aH)∧e 24=.t (I (aH.length:Nat))∧e 25=.t (I (c:Nat))∧e 49=.t (.aP false 4 (x.bM.map hq))∧e 50=.t (I (x.bM.length:Nat))∧e 51=.t (I 0))
  (bk:∀ e N aG,aG≤aH.length→u3 aH.length (fun n=>ht (aH.take (c+1)) (n:Nat)) N→(e 1=.t (lX fD aH)∧e 2=.t (.ip (j4 c1 c2 p))∧e 5=.ms 0 aH.length 0 aH.length 1 true∧e 23=.t (lX fD aH)∧e 24=.t (I (aH.length:Nat))∧e 25=.t (I (c:Nat)))→∀ y,R (.exit 2) e [.row 1 ((N.map I).map .t) aG,y]) (y:a9) (ar:∀ aY q,dk aY q y=some y) :
  gP 2 (some [1,2,5,23,24,25,49,50,51]) (c6 Tryz.prog pol (a0 Tryz.prog pol) fT aR 33 Tp) R aR e [.row 1 ((N.map I).map .t) aG,y]:=by
 have tq:=(Dy h (av.br c x U)).1
 have fA:=av.cx
 refine hA x.bM hq (St:=fun j e ai=>∃ N aG,(e 1=.t (lX fD aH)∧e 2=.t (.ip (j4 c1 c2 p))∧e 5=.ms 0 aH.length 0 aH.length 1 true∧e 23=.t (lX fD aH)∧e 24=.t (I (aH.length:Nat))∧e 25=.t (I (c:Nat))∧e 49=.t (.aP false 4 (x.bM.map hq))∧e 50=.t (I (x.bM.length:Nat))∧e 51=.t (I (j:Nat)))∧aG≤aH.length∧u3 aH.length (fun n=>ht (aH.take c) (n:Nat)+jd (n:Nat) (x.bM.take j)) N∧ai=[.row 1 ((N.map I).map .t) aG,y])
  (Ex:=fun q e ai=>q=.exit 2∧∃ N aG,aG≤aH.length∧u3 aH.length (fun n=>ht (aH.take (c+1)) (n:Nat)) N∧(e 1=.t (lX fD aH)∧e 2=.t (.ip (j4 c1 c2 p))∧e 5=.ms 0 aH.length 0 aH.length 1 true∧e 23=.t (lX fD aH)∧e 24=.t (I (aH.length:Nat))∧e 25=.t (I (c:Nat)))∧ai=[.row 1 ((N.map I).map .t) aG,y]) (by omega) ?_ ?_ (by omega) ⟨N,aG,he,bN,U5 bG (fun n=>by simp[jd]),rfl⟩ ?_
 ·rintro j a e ai Y gn hm aU v7 bx aB hw ⟨N,aG,⟨s1,s2,bC,kt,k6,pk,Fw,vb,NQ⟩,bN,bG,rfl⟩ bW fl
  have xD:∀ n:Int,jd n (x.bM.take (j+1))=jd n (x.bM.take j)+if a.dX = -1∧a.jg=n then 1 else 0:=fun n=>ajb v7
  have al:=(av.br c x U).2.2.1 a hm
  have lR:∀ aY q (m:Nat) (N:List Int),dk aY q (.row 1 ((N.map I).map .t) m)=some (.row 1 ((N.map I).map .t) m):=fun aY q m N=>by simp only[dk,zj,cQ]
  by_cases ab:a.dX = -1
  ·obtain⟨k,an⟩:∃ k:Nat,a.jg=(k:Nat):=by
    rcases al with⟨_,_,cG,_⟩|⟨_,b3,_⟩|⟨_,b3,_⟩
    ·exact⟨a.jg.toNat,by omega⟩
    ·omega
    ·omega
   have D1:c<k∧k<aH.length:=by
    rcases al with⟨_,_,cG,nr⟩|⟨_,b3,_⟩|⟨_,b3,_⟩
    ·omega
    ·omega
    ·omega
   have az:=bG.v k D1.2
   have hle:ht (aH.take c) ((k:Nat):Int)+jd ((k:Nat):Int) (x.bM.take j)≤1:=by
    have aT:=av.oT (k:Nat) (by omega) (by omega)
    have aW:ht (aH.take (c+1)) (k:Nat)≤ht aH (k:Nat):=ajc _
    rw[XO U]at aW
    have bw:jd ((k:Nat):Int) (x.bM.take j)≤jd (k:Nat) x.bM:=aja _
    omega
   have QP:=at1 (g:=fun n=>ht (aH.take c) (n:Nat)+jd (n:Nat) (x.bM.take (j+1))) bG D1.2 (fun n=>by
    simp only[xD,ab,zc,an]
    by_cases e:n=k
    ·subst e;simp;omega
    ·rw[a2 (by omega),a2 e];omega)
   have re:((N.map I).map ah.t)[k]? = some (.t (I ((ht (aH.take c) (k:Nat)+jd (k:Nat) (x.bM.take j):Nat):Int))):=by rw[eE,eE,az];rfl
   have qq:∀ v:Int,((N.map I).map ah.t).set k (.t (I v))=((N.set k v).map I).map .t:=fun v=>by simp[y9]
   have BC:((N.map I).map ah.t).length=aH.length:=by simp[bG.l]
   generalize ht (aH.take c) ((k:Nat):Int)+jd ((k:Nat):Int) (x.bM.take j)=v at *
   have aoL:IntKind.i64.wrap (((v:Nat):Int)+1)=((v:Nat):Int)+1:=wrap_i64 (by omega) (by omega)
   have aor:=qq (((v:Nat):Int)+1)
   obtain⟨bQ,to,dX,ee⟩:=a
   simp only at ab an
   subst ab an
   have hR:=D1.2
   generalize eL:(N.map I).map ah.t=L at *
   (repeat' first|simp only[Tq,Ir,go_sem,s1,s2,bC,kt,k6,pk,Fw,vb,NQ,aB,hw,bx,re,aor,BC,hR,aoL,bN,lR,ar]|with_reducible first|refine aZ fun _=>?_|refine a1 ?_|fail)
   all_goals(refine bW _ _ ⟨_,aH.length,?_,bP _,QP,rfl⟩;simp only[go_sem,s1,s2,bC,kt,k6,pk,Fw,vb,hw])
  ·have q:decide (a.dX = -1)=false:=bA ab
   have QP:u3 aH.length (fun n=>ht (aH.take c) (n:Nat)+jd (n:Nat) (x.bM.take (j+1))) N:=U5 bG fun n=>by simp only[xD,ab,false_and,et,s0]
   obtain⟨bQ,to,dX,ee⟩:=a
   simp only at q
   simp only[Tq,Ir,go_sem,s1,s2,bC,kt,k6,pk,Fw,vb,NQ,aB,hw,bx,q,lR,ar]
   all_goals(refine bW _ _ ⟨N,aG,?_,bN,QP,rfl⟩;simp only[go_sem,s1,s2,bC,kt,k6,pk,Fw,vb,hw])
 ·rintro e ai Y gn aB ⟨N,aG,⟨s1,s2,bC,kt,k6,pk,Fw,vb,NQ⟩,bN,bG,rfl⟩ fl
  rw[s4]at bG
  simp only[Tq,Ir,go_sem,s1,s2,bC,kt,k6,pk,Fw,vb,NQ,aB]
  all_goals(refine fl _ _ _ ⟨rfl,N,aG,bN,U5 bG (fun n=>by simp only[XO U]),?_,rfl⟩;simp only[go_sem,s1,s2,bC,kt,k6,pk])
 ·rintro q e ai ⟨rfl,N,aG,bN,bG,J,rfl⟩
  exact bk e N aG bN bG J y
end
section
variable(c1 c2 fD:Bool)(p:b7)(h:jt p)(aH:List c3)(av:E2 p aH)
include h av
theorem ala:a0 Tryz.prog pol 33 [g1 c1 c2 p,lX fD aH]=some (B true):=by
 have kl:=av.eh
 have fA:=av.cx
 have d1:decide (((aH.length:Nat):Int)<1)=false:=bA (by omega)
 have d2:decide ((2000:Int)<((aH.length:Nat):Int))=false:=bA (by omega)
 have p0:8*aH.length≤eQ:=by rw[Aq];omega
 have Jl:aH.length≤9223372036854775807:=by omega
 refine cK 5000 1 aqd (bH rfl) ?_
 (repeat' first|simp only[Mo,go_sem,d1,d2,p0,Jl,bJ]|with_reducible first|refine aZ fun _=>?_|refine a1 ?_|fail)
 refine hA aH tf (St:=fun c e ai=>∃ N aG,(e 1=.t (lX fD aH)∧e 2=.t (.ip (j4 c1 c2 p))∧e 5=.ms 0 aH.length 0 aH.length 1 true∧e 23=.t (lX fD aH)∧e 24=.t (I (aH.length:Nat))∧e 25=.t (I (c:Nat)))∧aG≤aH.length∧u3 aH.length (fun n=>ht (aH.take c) (n:Nat)) N∧ai=[.row 1 ((N.map I).map .t) aG])
  (Ex:=fun q e ai=>q=.exit 0∧∃ N aG,aG≤aH.length∧u3 aH.length (fun n=>ht aH (n:Nat)) N∧e 5=.ms 0 aH.length 0 aH.length 1 true∧ai=[.row 1 ((N.map I).map .t) aG]) (by omega) ?_ ?_ (by omega) ?_ ?_
 ·rintro c x e ai Y R hm af U bx aB hw ⟨N,aG,⟨s1,s2,bC,kt,k6,pk⟩,bN,bG,rfl⟩ bW bk
  have MZ:=ag4 c1 c2 fD p h aH av c x U
  have dY:=av.br c x U
  have a3:decide (x.str<0)=false:=bA (by have:=dY.1;omega)
  have a7:decide (((p.aK.length:Nat):Int)≤x.str)=false:=bA (by have:=dY.1;omega)
  have hf:=fun fT R e he bk y ar=>atU c1 c2 fD p h aH av c x U N aG bN bG fT 5000 (by omega) R e he bk y ar
  have lR:∀ aY q (m:Nat) (N:List Int),dk aY q (.row 1 ((N.map I).map .t) m)=some (.row 1 ((N.map I).map .t) m):=fun aY q m N=>by simp only[dk,zj,cQ]
  obtain⟨s,bM⟩:=x
  simp only at a3 a7
  (repeat' first|simp only[Tr,Is,go_sem,s1,s2,bC,kt,k6,pk,aB,bx,af,a3,a7,MZ,bJ]|with_reducible first|refine aZ fun _=>?_|refine a1 ?_|fail)
  with_reducible refine hf _ _ _ ?_ ?_ _ ?_
  ·simp only[go_sem,s1,s2,bC,kt,k6,pk]
  ·rintro e OG oD RJ QO ⟨b9,b3,qH,ad4,ad5,avZ⟩ y
   simp only[Tr,Is,go_sem,b9,b3,qH,ad4,ad5,avZ,hw,lR]
   all_goals(refine bW _ _ ⟨OG,oD,?_,RJ,QO,rfl⟩;simp only[go_sem,b9,b3,qH,ad4,ad5,hw])
  ·intro aY q
   simp[dk,dw,cL]
 ·rintro e ai Y R aB ⟨N,aG,⟨s1,s2,bC,kt,k6,pk⟩,bN,bG,rfl⟩ bk
  rw[s4]at bG
  simp only[Tr,Is,go_sem,s1,s2,bC,kt,k6,pk,aB]
  all_goals(refine bk _ _ _ ⟨rfl,N,aG,bN,bG,?_,rfl⟩;simp only[go_sem,bC])
 ·refine⟨List.replicate aH.length 0,0,?_,by omega,⟨by simp,fun n aw=>by simp[aw,ht]⟩,?_⟩
  ·simp only[go_sem]
  ·simp
 ·rintro q e ai ⟨rfl,N,aG,bN,bG,dC,rfl⟩
  have lR:∀ aY q (m:Nat) (N:List Int),dk aY q (.row 1 ((N.map I).map .t) m)=some (.row 1 ((N.map I).map .t) m):=fun aY q m N=>by simp only[dk,zj,cQ]
  have Jw:kp 1 (.ms 0 aH.length 0 aH.length 1 true) (some (.t (I 1))) none none=some (.ms 0 aH.length 1 (aH.length-1) 1 true):=by simp[kp,hM,asNat,kl]
  simp only[Mo,go_sem,dC,Jw]
  refine hA (List.replicate (aH.length-1) ()) (fun _=>.aA (.bool true)) (St:=fun j e ai=>(e 68=.ms 0 aH.length 1 (aH.length-1) 1 true∧e 69=.t (I ((aH.length-1:Nat):Int))∧e 70=.t (I (j:Nat)))∧ai=[.row 1 ((N.map I).map .t) aG])
   (Ex:=fun q e ai=>q=.exit 4) (by rw[ic];omega) ?_ ?_ (by rw[ic];omega) ?_ ?_
  ·rintro j x e ai Y R hm aU U bx aB hw ⟨⟨s1,s2,a8⟩,rfl⟩ bW bk
   rw[ic]at aB aU
   have az:=bG.v (j+1) (by omega)
   rw[av.oT ((j+1:Nat):Int) (by omega) (by omega)]at az
   have re:((N.map I).map ah.t)[1+j]? = some (.t (I 1)):=by rw[eE,eE,Gh,az];rfl
   have BC:((N.map I).map ah.t).length=aH.length:=by simp[bG.l]
   have D0:1+j<aH.length:=by omega
   generalize (N.map I).map ah.t=L at *
   simp only[aby,Mp,go_sem,s1,s2,a8,aB,hw,re,BC,aU,D0,bN]
   all_goals(refine bW _ _ ⟨?_,rfl⟩;simp only[go_sem,s1,s2,hw])
  ·rintro e ai Y R aB ⟨⟨s1,s2,a8⟩,rfl⟩ bk
   rw[ic]at aB a8
   simp only[aby,Mp,go_sem,s1,s2,a8,aB]
   all_goals exact bk _ _ _ rfl
  ·refine⟨?_,rfl⟩
   simp only[go_sem]
  ·rintro q e ai rfl
   simp only[Mo,go_sem]
end
theorem afb:dB Tryz.prog 177=some (.map 179 4):=by kernel_rfl
theorem akq(cJ cU dU cN db eG:Int):ot Tryz.prog 20 179 (qz (cJ,cU,dU)) (qz (cN,db,eG))=some (cJ == cN && (cU == db && (dU == eG && true))):=by kernel_rfl
theorem asH(cJ cU dU:Int):qx Tryz.prog 20 179 (qz (cJ,cU,dU))=true:=by kernel_rfl
theorem acW:yV Tryz.prog 179 iJ where
 ok k:=rfl
 key k:=asH k.1 k.2.1 k.2.2
 eq a b:=by
  obtain⟨cJ,cU,dU⟩:=a
  obtain⟨cN,db,eG⟩:=b
  have h:ot Tryz.prog 20 179 (qz (cJ,cU,dU)) (qz (cN,db,eG))=some (decide (cJ=cN∧cU=db∧dU=eG)):=by
   rw[akq]
   congr 1
   by_cases ad:cJ=cN<;>by_cases ag:cU=db<;>by_cases aJ:dU=eG<;>simp[ad,ag,aJ]
  rw[EP,EP,h]
  congr 1
  exact y2.2 ⟨by rintro⟨rfl,rfl,rfl⟩;rfl,by rintro h;cases h;exact⟨rfl,rfl,rfl⟩⟩
 bits k:=by simp[iJ,Instr.sameBits]
theorem as8(kn:List (jj × Bool))(k:jj)(Y:aj):nn Tryz.prog 177 true (.map (fk iJ iS kn)::Y) (.mp 0) (.t (qz k))=some (.t (.ch [B ((gZ kn k).getD false),B (gZ kn k).isSome])):=by
 have:=ac8 (h:=.map (fk iJ iS kn)::Y) (o:=0) acW afb Wt k (f:=iS) (l:=kn) rfl
 rw[EP]at this
 rw[this]
 cases gZ kn k<;>rfl
theorem az6(kn:List (jj × Bool))(k:jj)(b:Bool)(Y:aj):ua Tryz.prog 177 (.map (fk iJ iS kn)::Y) (.mp 0) (.t (qz k)) (.t (B b))=some (.map (fk iJ iS (mY kn k b))::Y) :=
 Oe (h:=.map (fk iJ iS kn)::Y) (o:=0) acW afb k b (f:=iS) (l:=kn) rfl
theorem atK(a b:Int)(ae:-1000000≤a∧a≤1000000)(ab:1≤b∧b≤1000000):a0 Tryz.prog pol 94 [I a,I b]=some (I (a % b)):=by
 have ad:=Gf a (show 0<b by omega)
 have ag:=JY a (show 0<b by omega)
 have w:IntKind.i64.wrap (a.tmod b+b)=a.tmod b+b:=wrap_i64 (by omega) (by omega)
 have ft:b≠0:=by omega
 have e:=mod_eq a b (by omega)
 refine cK 1 1 arf (bH rfl) ?_
 simp only[acC,go_sem,w,ft,e]
theorem N3:∀ cs:List Int,fX ((cs.map I).map ah.t)=true:=by
 intro cs
 induction cs with
 | nil=>rfl
 | cons c cs au=>exact au
abbrev CZ:a9:=.row 1 [.mp 0] 1
def gr(kn:List (jj × Bool))(W S R:a9)(X:aj):aj:=.map (fk iJ iS kn)::CZ::W::S::R::X
section
variable(c1 c2:Bool)(p:b7)(h:jt p)
include h
theorem XJ(kn:List (jj × Bool))(hg:kq p kn)(W S R:a9)(X:aj)(i x j y:Int)(hi:0≤i∧i<p.aK.length)(U:0≤x∧x<240)(aU:0≤j∧j<p.aK.length)(ar:0≤y∧y<240)(gY:i=j→x=y)(bn aR:Nat)(Q:ah→aj→Prop)
  (bI:∀ eH row,kq p eH→Q (.t (B (kj p i x j y))) (gr eH W S R (X++[row]))) :
  ej (inl Tryz.prog pol (a0 Tryz.prog pol) aR (bn+1) (.fn 93) [.t (I i),.t (I x),.t (I j),.t (I y),.t (.ip (j4 c1 c2 p)),.ref 1 1 0 0] (gr kn W S R X)) Q:=by
 obtain⟨cN,db⟩:=oF p h hi
 obtain⟨gj,_⟩:=wv (p:=p) hi
 have gy:=hi.1
 have jM:i.toNat<p.aK.length:=by omega
 have cI:IntKind.i64.wrap (x-y)=x-y:=wrap_i64 (by omega) (by omega)
 have ft:bT p i≠0:=by omega
 have IU:=atK (x-y) (bT p i) (by omega) (by omega)
 have aT:=nG (x-y) ft
 have aW:=l5 (x-y) (show 0<bT p i by omega)
 have ln:=Wx c1 c2 p h i ((x-y) % bT p i) j 0 hi ⟨aT,aW⟩ aU ⟨by omega,by have:=(oF p h aU).1;omega⟩ (fun he=>by rw[gY he,Int.sub_self,O9])
 have ay:∀ b,gZ kn (i,(x-y) % bT p i,j)=some b→b=kj p i x j y:=fun b ab=>hg _ _ ab
 have av:kq p (mY kn (i,(x-y) % bT p i,j) (kj p i x j y)):=fun k b ab=>by
  rw[Cl]at ab
  split at ab
  ·rename_i an
   subst an
   cases ab
   rfl
  ·exact hg k b ab
 change a0 Tryz.prog pol 95 [_,_,_,_,_]=some (.ch [B (kj p i x j y),_])at ln
 generalize kj p i x j y=r at *
 generalize (x-y) % bT p i=d at *
 generalize eB:bT p i=P at *
 have kZ:=as8 kn (i,d,j)
 have rl:=az6 kn (i,d,j) r
 refine lp are (bH rfl) ?_
 simp only[gr]at bI ⊢
 cases az:gZ kn (i,d,j)with
 | none =>
  rw[az]at kZ
  simp only[Option.getD_none,OY]at kZ
  (repeat' first|simp only[Ug,go_sem,gj,gy,jM,cI,IU,ln,kZ,rl,bJ,mM,nu]|with_reducible first|refine aZ fun _=>?_|refine a1 ?_|fail)
  exact bI _ _ av
 | some b =>
  have ab:=ay b az
  subst ab
  rw[az]at kZ
  simp only[na,O0]at kZ
  (repeat' first|simp only[Ug,go_sem,gj,gy,jM,cI,IU,ln,kZ,rl,bJ,mM,nu]|with_reducible first|refine aZ fun _=>?_|refine a1 ?_|fail)
  exact bI _ _ hg
abbrev pK(c1 c2:Bool)(p:b7):ah:=.fn (.func 93) [] [.t (.ip (j4 c1 c2 p)),.ref 1 1 0 0]
omit h in
theorem QU{kn:List (jj × Bool)}{W S R:a9}{X:aj}(hQ:∀ n,5≤n→hs n W)(cE:∀ n,5≤n→hs n S)(bk:∀ n,5≤n→hs n R)(fa:∀ x∈X,∀ n,hs n x)(e:aM)(Y:aj)(bW:Y≠[]) :
  iq (X.length+5) e (gr kn W S R (X++Y))=some (kV (gr kn W S R (X++Y)) (bV (X.length+5)) e,gr kn W S R X):=by
 have aB0:0<Y.length:=OX.2 bW
 unfold iq
 rw[a2 (by simp[gr];omega)]
 have k2:(gr kn W S R (X++Y)).take (X.length+5)=gr kn W S R X:=by simp[gr]
 have dx:∀ o∈gr kn W S R X,hs (X.length+5) o:=by
  intro o aC
  simp only[gr,iu]at aC
  rcases aC with rfl|rfl|rfl|rfl|rfl|aC
  ·exact XL _ _
  ·simp[hs,dw,cL,bV]
  ·exact hQ _ (by omega)
  ·exact cE _ (by omega)
  ·exact bk _ (by omega)
  ·exact fa o aC _
 rw[k2,Ch dx]
theorem aw0(kn:List (jj × Bool))(hg:kq p kn)(W S R:a9)(X:aj)(hQ:∀ n,5≤n→hs n W)(cE:∀ n,5≤n→hs n S)(bk:∀ n,5≤n→hs n R)(fa:∀ x∈X,∀ n,hs n x)
  (s:Nat) (J:s<p.aK.length) (G:List Int) (hJ:G.length=12) (amd:∀ v∈G,-1≤v∧v<240) (a:eK) (k:Nat) (an:a.dX=(k:Nat)) (ZG:k<p.aK.length) (iT:0≤a.ec∧a.jH≤240) (al:Jh p (s:Nat) G a) (bn aR:Nat) (aw:1000<aR) (Q:ah→aj→Prop)
  (bI:∀ eH Y,kq p eH→Q (.t (B true)) (gr eH W S R (X++Y))) :
  ej (inl Tryz.prog pol (a0 Tryz.prog pol) aR (bn+2) (.fn 60) [pK c1 c2 p,.t (I (s:Nat)),.t (.agg (G.map I)),.t (hq a)] (gr kn W S R X)) Q:=by
 have xw:=h.len
 obtain⟨v,az⟩:∃ v,G[k]? = some v:=⟨_,fC (by omega)⟩
 have aCx:=amd v (gp az)
 have re:DO G a.dX=v:=by rw[an,DO,ld,az];rfl
 have pP:∃ rest,(G.map I).drop k=I v::rest:=by
  have zH:k<(G.map I).length:=by rw[bJ];omega
  refine⟨(G.map I).drop (k+1),?_⟩
  rw[drop_cons zH]
  congr 1
  have:=fC zH
  rw[eE,az]at this
  exact(Option.some.inj this).symm
 obtain⟨rest,pP⟩:=pP
 have RC:k<12:=by omega
 obtain⟨b9,b3⟩:=al
 rw[re]at b9 b3
 have Ov:∀ aY,dV aY (bV (X.length+5)) (pK c1 c2 p)=some (pK c1 c2 p):=fun aY=>by simp[dV,jk,cL,dw,bV]
 have hy:=fun kn e row=>QU (kn:=kn) hQ cE bk fa e [row] (by simp)
 have cg:∀ kn X,(gr kn W S R X)[1]? = some CZ:=fun _ _=>rfl
 have FN:CL.Jx 0 none=none:=rfl
 have v3:=N3 G
 obtain⟨bQ,to,dX,ee⟩:=a
 simp only at an iT b9 b3
 subst an
 have d0:decide (((k:Nat):Int)=((s:Nat):Int))=decide (k=s):=y2.2 ⟨fun h=>Int.ofNat.inj h,fun h=>by rw[h]⟩
 generalize BL:decide (k=s)=hC at *
 have ZH:∀ kn,(gr kn W S R X).length=X.length+5:=fun kn=>by simp[gr]
 refine lp aqI (bH rfl) ?_
 have main:∀(ca:cW→aM→aj→Prop) (e:aM),(e 0=pK c1 c2 p∧e 1=.t (I (s:Nat))∧e 6=.t (.ip (G.map I))∧e 7=.t (.ip [I bQ,I to,I (k:Nat),I ee])∧e 9=.t (I bQ))→(∀ e eH,kq p eH→ca (.exit 0) e (gr eH W S R X)) →
   gP (X.length+5) (some [0,1,6,7,9]) (c6 Tryz.prog pol (a0 Tryz.prog pol) (inl Tryz.prog pol (a0 Tryz.prog pol) aR (bn+1)) aR 60 TV) ca aR e (gr kn W S R X):=by
  intro ca e he xy
  refine Ad (St:=fun m e ai=>∃(x:Int) (eH:List (jj × Bool)),(e 0=pK c1 c2 p∧e 1=.t (I (s:Nat))∧e 6=.t (.ip (G.map I))∧e 7=.t (.ip [I bQ,I to,I (k:Nat),I ee])∧e 9=.t (I x))∧kq p eH∧bQ≤x∧m=(to-x).toNat∧ai=gr eH W S R X)
   (Ex:=fun q e ai=>q=.exit 0∧∃ eH,kq p eH∧ai=gr eH W S R X) ?_ ?_ _ (to-bQ).toNat _ _ (by omega) ⟨bQ,kn,he,hg,by omega,rfl,rfl⟩
  ·rintro m e ai Y gn ⟨x,eH,⟨bE,s1,bt,dE,cM⟩,xL,U,hm,rfl⟩ bW fl
   generalize aE:decide (x<to)=q
   cases q
   ·simp only[ID,B4,go_sem,bE,s1,bt,dE,cM,aE]
    all_goals exact fl _ _ _ ⟨rfl,eH,xL,rfl⟩
   ·have tE:=ka aE
    have hw:IntKind.i64.wrap (x+1)=x+1:=wrap_i64 (by omega) (by omega)
    have af:=b3 x U tE
    cases hC
    ·have eo:=r1 BL
     rw[a2 (by omega)]at af
     have LJ:v ≠ -1:=by rcases b9 with b9|b9;omega;exact b9
     have dx:=fun Q bI=>XJ c1 c2 p h eH xL W S R X (s:Nat) x (k:Nat) v ⟨by omega,by omega⟩ ⟨by omega,by omega⟩ ⟨by omega,by omega⟩ ⟨by omega,by omega⟩ (fun e=>by omega) bn aR Q bI
     rw[af]at dx
     (repeat' first|simp only[ID,B4,go_sem,bE,s1,bt,dE,cM,aE,pP,RC,d0,cg,FN,w9]|with_reducible first|refine aZ fun _=>?_|refine a1 ?_|fail)
     with_reducible refine dx _ ?_
     intro rA row xM
     simp only[ID,B4,go_sem,bE,s1,bt,dE,cM,hw,hy,Ov]
     all_goals(refine bW (to-(x+1)).toNat _ _ (by omega) ⟨x+1,rA,?_,xM,by omega,rfl,rfl⟩;simp only[go_sem,bE,s1,bt,dE,hw,Ov])
    ·have eo:=ka BL
     rw[a6 (by omega)]at af
     have dx:=fun Q bI=>XJ c1 c2 p h eH xL W S R X (s:Nat) x (k:Nat) x ⟨by omega,by omega⟩ ⟨by omega,by omega⟩ ⟨by omega,by omega⟩ ⟨by omega,by omega⟩ (fun e=>rfl) bn aR Q bI
     rw[af]at dx
     (repeat' first|simp only[ID,B4,go_sem,bE,s1,bt,dE,cM,aE,pP,RC,d0,cg,FN,w9]|with_reducible first|refine aZ fun _=>?_|refine a1 ?_|fail)
     with_reducible refine dx _ ?_
     intro rA row xM
     simp only[ID,B4,go_sem,bE,s1,bt,dE,cM,hw,hy,Ov]
     all_goals(refine bW (to-(x+1)).toNat _ _ (by omega) ⟨x+1,rA,?_,xM,by omega,rfl,rfl⟩;simp only[go_sem,bE,s1,bt,dE,hw,Ov])
  ·rintro q e ai ⟨rfl,eH,xL,rfl⟩
   exact xy e eH xL
 cases hC
 ·have LJ:decide (v = -1)=false:=bA (by have:=r1 BL;rcases b9 with b9|b9;omega;exact b9)
  (repeat' first|simp only[IC,go_sem,d0,pP,RC,LJ,v3,ZH,w9]|with_reducible first|refine aZ fun _=>?_|refine a1 ?_|fail)
  with_reducible refine main _ _ ?_ ?_
  ·simp only[go_sem]
  ·intro e eH xL
   simp only[IC,go_sem]
   have:=bI eH [] xL
   rwa[oj]at this
 ·(repeat' first|simp only[IC,go_sem,d0,v3,ZH]|with_reducible first|refine aZ fun _=>?_|refine a1 ?_|fail)
  with_reducible refine main _ _ ?_ ?_
  ·simp only[go_sem]
  ·intro e eH xL
   simp only[IC,go_sem]
   have:=bI eH [] xL
   rwa[oj]at this
end
abbrev r0:=Nat × List Int
abbrev tY(k:r0):T:=.agg (I (k.1:Nat)::k.2.map I)
structure Ay(S:List r0)(es:List ah):Prop where
 l:S.length≤es.length
 g:∀(i:Nat) ew,S[i]? = some ew→es[i]? = some (.t (tY ew))
 a:∀ x∈es,∃ t,x=ah.t t
theorem Kz{es:List ah}(h:∀ x∈es,∃ t,x=ah.t t)(n k aG:Nat):hs n (.row k es aG):=by
 show dw (bV n) es=true
 induction es with
 | nil=>rfl
 | cons x es au =>
  obtain⟨t,rfl⟩:=h x (by simp)
  exact au fun y ar=>h y (by simp[ar])
abbrev oN(E n m:Nat):a9:=.row 1 [.ms 4 E 0 n 13 false] m
abbrev py(es:List ah)(aG:Nat):a9:=.row 13 es aG
theorem Xn(G:List Int)(hJ:G.length=12)(c:Nat):∀ z:List ah,z.length=13→ku (z.take 0++[ah.t (I (c:Nat))]++z.drop 1) 1 ((G.map I).map ah.t)=.t (I (c:Nat))::(G.map I).map ah.t:=by
 intro z bl
 have ao:((G.map I).map ah.t).length=12:=by simp[hJ]
 rw[ku]
 simp only[AV,ea,dS]
 rw[qV,AV,y5 (by rw[ao];simp[bl])]
 simp
theorem avS(kn:List (jj × Bool))(S:List r0)(es:List ah)(aG m:Nat)(hm:m≤1)(bN:aG≤es.length)(aS:Ay S es)(hlen:es.length≤100000)(c:Nat)(G:List Int)(hJ:G.length=12)(St:a9)(X:aj)(bn aR:Nat)(Q:ah→aj→Prop)
  (bI:∀ gI oD,oD≤gI.length→Ay (S++[(c,G)]) gI→(gI.length≤es.length∨gI.length≤S.length+1)→Q (.t (.ch [])) (gr kn (oN gI.length (S.length+1) 1) St (py gI oD) X)) :
  ej (inl Tryz.prog pol (a0 Tryz.prog pol) aR (bn+1) (.fn 59) [.t (I (c:Nat)),.t (.agg (G.map I)),.ref 2 1 0 0] (gr kn (oN es.length S.length m) St (py es aG) X)) Q:=by
 have v3:=N3 G
 have BB:(G.map I).length=12:=by simp[hJ]
 have mf:qY 13 104 (.ms 4 es.length 0 S.length 13 false) (gr kn (oN es.length S.length m) St (py es aG) X) (some [.t (tY (c,G))])=if S.length=es.length then some (.ms 4 (es.length+1) 0 (S.length+1) 13 false,gr kn (oN es.length S.length m) St (py (es++[.t (tY (c,G))]) aG) X)else some (.ms 4 es.length 0 (S.length+1) 13 false,gr kn (oN es.length S.length m) St (py (es.take S.length++[.t (tY (c,G))]++es.drop (S.length+1)) es.length) X):=by
  have ao:=aS.l
  rw[zi]
  show Gs 13 104 4 es.length 0 S.length 13 false _ _ _ (some (.row 13 es aG))=_
  have fr:(S.length+(([]:List ah).length+1))*104≤eQ:=l9 (by simp;omega) (by omega)
  rw[Gs]
  rw[a6 ⟨fr,rfl,rfl,bN,by omega,bP _⟩]
  simp only[fJ,et]
  by_cases aE:S.length=es.length
  ·rw[a6 ⟨by first|rfl|trivial,aE,by first|rfl|trivial⟩,a6 aE];rfl
  ·rw[a2 (by rintro⟨_,h,_⟩;exact aE h),a6 ⟨by first|rfl|trivial,by simp;omega,by first|rfl|trivial⟩,a2 aE];rfl
 have Py:=Xn G hJ c
 have k2:List.take 12 (G.map I)=G.map I:=l8 (by omega)
 refine lp abX (bH rfl) ?_
 simp only[gr]at mf bI ⊢
 by_cases aE:S.length=es.length
 ·rw[a6 aE]at mf
  simp only[MB,go_sem,v3,BB,Py,mf,hm,k2]
  all_goals(have h6:=bI (es++[.t (tY (c,G))]) aG (by simp;omega) ⟨by simp;omega,fun i ew hi=>?_,fun x U=>?_⟩ (.inr (by simp;omega)))
  ·have aT:(es++[ah.t (tY (c,G))]).length=es.length+1:=by simp
   rw[aT]at h6
   exact h6
  ·by_cases qj:i<S.length
   ·rw[fv qj]at hi
    rw[fv (by omega)]
    exact aS.g i ew hi
   ·have xI:i=S.length:=by have:=(cD.1 hi).1;simp at this;omega
    subst xI
    simp only[y0,Option.some.injEq]at hi
    subst hi
    rw[aE];simp
  ·rcases hp.1 U with U|U
   ·exact aS.a x U
   ·simp only[kA]at U;exact⟨_,U⟩
 ·rw[a2 aE]at mf
  have ao:=aS.l
  have eL:(es.take S.length++[ah.t (tY (c,G))]++es.drop (S.length+1)).length=es.length:=by simp;omega
  have h6:=bI (es.take S.length++[.t (tY (c,G))]++es.drop (S.length+1)) es.length (by rw[eL];exact bP _) ⟨by rw[eL];simp;omega,fun i ew hi=>by
   by_cases qj:i<S.length
   ·rw[fv qj]at hi
    rw[fU,fv (by simp;omega),l4,a6 qj]
    exact aS.g i ew hi
   ·have xI:i=S.length:=by have:=(cD.1 hi).1;simp at this;omega
    subst xI
    simp only[y0,Option.some.injEq]at hi
    subst hi
    have ad:(es.take S.length).length=S.length:=by simp;omega
    rw[fU,g5 (by omega),ad,nC];rfl,fun x U=>by
   rcases hp.1 U with U|U
   ·rcases hp.1 U with U|U
    ·exact aS.a x (C7 U)
    ·simp only[kA]at U;exact⟨_,U⟩
   ·exact aS.a x (List.mem_of_mem_drop U)⟩ (.inl (by rw[eL];exact bP _))
  rw[eL]at h6
  generalize es.take S.length++[ah.t (tY (c,G))]++es.drop (S.length+1)=q0 at *
  simp only[MB,go_sem,v3,BB,Py,mf,hm,k2]
  all_goals exact h6
def CT(C:Nat)(g:Int)(bp:List jb)(w:hn):List jb:=pq C g w bp (rz C g w)
def qB(C L:Nat)(g:Int)(W:List hn):List jb:=W.foldl (CT C g) (sR C L)
abbrev h2:a9:=.row 1 [.fn (.func 30) [] [.ref 3 1 0 0,.ref 1 1 0 0]] 1
noncomputable abbrev pW(E:aM)(b:Bool):a9:=.loop 12 (rD 127 (eR (some [5,13,16]) E)) [73] (hc Tryz.prog 12 0).1 (hc Tryz.prog 12 0).2 b none
theorem OK{C L:Nat}{g:Int}:∀(W:List hn) (bp:List jb),jX C L bp→jX C L (W.foldl (CT C g) bp):=by
 intro W
 induction W with
 | nil=>intro bp h;exact h
 | cons w W au=>intro bp h;exact au _ (w3 g w h _)
theorem atO{C L:Nat}{g:Int}{W:List hn}{i:Nat}{w:hn}(h:W[i]? = some w):qB C L g (W.take (i+1))=CT C g (qB C L g (W.take i)) w:=by
 rw[r3,h]
 simp[qB]
theorem afs(c1 c2 c:Bool)(co:Option Bool)(t:bR)(u:fZ)(l:List dg)(o:List Int):a0 Tryz.prog pol 31 [fY c1 c2 t,sO u,.aP c 10 (l.map ek),jG co o]=some (.fn (.func 56) [] [.ip [.aP c 10 (l.map ek)],.ip [jG co o],.ip (dO c1 c2 t),.ip [I u.g,I u.aP,I u.fW,I u.gG]]):=by
 cases co<;>(
  simp only[jG]
  refine cK 1 1 aqb (bH rfl) ?_
  simp only[abu,go_sem])
theorem afY(lD:a9)(C L mk:Nat)(g8:mk≤L)(fy:1≤C∧C≤960)(g:Int)(ay:1≤g∧g≤10000)(c1 c2 dh:Int)(w:hn)(K:Nat)(hw:JG C L g w K)(E:aM)(dm:E 5=.t (.ip [I g,I c1,I c2,I dh])∧E 13=.ref 1 1 0 0∧E 16=.ref (L+1+1+1+1) 1 0 0)(bp:List jb)(nT:jX C L bp)(bn aR:Nat)(jn:2000000<aR)(X:aj)(Q:ah→aj→Prop)
  (bI:∀ cw,Q (.t (B true)) (fK lD C L mk (pq C g w bp K) [h2,pW E false]++X++cw)) :
  ej (inl Tryz.prog cX (a0 Tryz.prog cX) aR (bn+2) (.bF (L+1+1+1+1+1)) [.t (qP w)] (fK lD C L mk bp [h2,pW E false]++X)) Q:=by
 obtain⟨U,o7⟩:∃ U:Bool→List jb→aj,U=fun b bp=>fK lD C L mk bp ([h2,pW E b]++X):=⟨_,rfl⟩
 have aag:∀ bp Y,fK lD C L mk bp [h2,pW E false]++X++Y=U false bp++Y:=fun bp Y=>by rw[o7];simp only[fK,dS,fU]
 have hlen:∀ b bp,jX C L bp→(U b bp).length=L+1+1+1+1+1+1+X.length:=fun b bp h=>by rw[o7];simp only[fK,jc,gT,bJ,h.l,lF];omega
 have bL:∀(a b c d:a9) (Y:aj) (i:Nat),(a::b::c::d::Y)[i+1+1+1+1]? = Y[i]?:=fun a b c d Y i=>rfl
 have xN:∀ b bp Y,jX C L bp→(U b bp++Y)[L+1+1+1+1+1]? = some (pW E b):=fun b bp Y h=>by
  have ao:(bp.map jw).length=L:=by simp[h.l]
  rw[o7]
  simp only[fK,dS,fU]
  rw[show L+1+1+1+1+1=(L+1)+1+1+1+1 by omega,bL,g5 (by omega),ao,show L+1-L=1 by omega];rfl
 have aeF:∀ b bS bp Y,jX C L bp→List.set (U b bp++Y) (L+1+1+1+1+1) (pW E bS)=U bS bp++Y:=fun b bS bp Y h=>by
  have ao:(bp.map jw).length=L:=by simp[h.l]
  rw[o7]
  simp only[fK,dS,fU]
  rw[show L+1+1+1+1+1=(L+1)+1+1+1+1 by omega,w8,w8,w8,w8,AM _ _ (by omega),ao,show L+1-L=1 by omega];rfl
 have ad:∀ bp Y,(U true bp++Y)[1]? = some (a9.row 1 [.t (I (C:Nat))] 1):=fun bp Y=>by rw[o7];rfl
 have eA:∀ bp Y,jX C L bp→(U true bp++Y)[L+1+1+1+1]? = some h2:=fun bp Y h=>by
  have ao:(bp.map jw).length=L:=by simp[h.l]
  rw[o7]
  simp only[fK,dS,fU]
  rw[bL,g5 (by omega),ao,nC];rfl
 have hm:∀ bp Y (q a n:Nat) (Q:ah→aj→Prop),jX C L bp→q<L→a≤1000000000→n≤2000000→Q (.t (.ch [])) (U true (oB C bp q a n)++Y)→ej (inl Tryz.prog cX (a0 Tryz.prog cX) aR (bn+1) (.fn 30) [.t (I (q:Nat)),.t (I (a:Nat)),.t (I (n:Nat)),.ref 3 1 0 0,.ref 1 1 0 0] (U true bp++Y)) Q:=fun bp Y q a n Q h aE ae aw bI=>by
  have e:∀ bp,U true bp++Y=fK lD C L mk bp ([h2,pW E true]++X++Y):=fun bp=>by rw[o7];simp only[fK,dS,fU]
  rw[e]at bI ⊢
  exact aty lD C L mk g8 fy bp h _ q a n aE ae aw bn aR jn Q bI
 have aah:=aag bp []
 rw[oj,oj]at aah
 rw[aah]
 simp only[aag]at bI
 have ZL:=xN false bp [] nT
 rw[oj]at ZL
 have fA:=fun R e=>@aAW C L fy g ay c1 c2 dh (U true) (L+1+1+1+1+1+1+X.length) (L+1+1+1+1) bn aR w K hw (hlen true) ad eA hm bp nT jn R e
 have tA:=hlen false bp nT
 have o2:=hlen true bp nT
 generalize L+1+1+1+1+1+1+X.length=vu at *
 have zt:∀ b (x:a9),(U b bp++[x])[vu]? = some x:=fun b x=>by rw[← hlen b bp nT];exact mM
 have axO:∀ b (x y:a9),List.set (U b bp++[x]) vu y=U b bp++[y]:=fun b x y=>by rw[← hlen b bp nT];exact nu
 have anJ:=fun b Y=>xN b bp Y nT
 have anK:=fun b Y=>xN b _ Y (w3 g w nT K)
 have ayj:=fun b bS Y=>aeF b bS bp Y nT
 have ayk:=fun b bS Y=>aeF b bS _ Y (w3 g w nT K)
 obtain⟨eh,cx⟩:=hw.dA
 obtain⟨f0,f1⟩:=hw.bQ
 have cI:IntKind.i64.wrap (w.dA+g)=w.dA+g:=wrap_i64 (by omega) (by omega)
 have dZ:IntKind.i64.wrap (w.dA+g-1)=w.dA+g-1:=wrap_i64 (by omega) (by omega)
 have ft:g≠0:=by omega
 have d0:0≤(w.dA+g-1) / g:=uB (by omega) (by omega)
 have d1:(w.dA+g-1) / g≤w.dA+g-1:=AQ _ (by omega)
 have aE:(w.dA+g-1).tdiv g=((mA g w:Nat):Int):=by rw[FZ (by omega),mA,uw d0]
 have JJ:IntKind.i64.wrap ((mA g w:Nat):Int)=((mA g w:Nat):Int):=wrap_i64 (by omega) (by unfold mA;omega)
 obtain⟨bZ,KI,KJ⟩:=dm
 generalize pq C g w bp K=agh at *
 generalize mA g w=un at *
 obtain⟨Jd,GW,IW,Jc⟩:=w
 simp only at *
 refine Cm (E:=eR (some [5,13,16]) E) ZL rfl rfl apG apH ?_
 simp only[aa3,S0,go_sem,bZ,KI,KJ,tA,o2,zt,axO,anJ,ayj,cI,dZ,ft,aE,JJ]
 with_reducible refine fA _ _ ?_ ?_
 ·simp only[go_sem,bZ,KI,KJ]
 ·rintro e ⟨bC,n6,im⟩
  simp only[S0,go_sem,bC,n6,im,anK,ayk]
  all_goals exact bI _
theorem QS(x:T)(rE C L mk:Nat)(bp:List jb)(q:Nat)(aE:4+L≤q):∀ o∈fK (.row 2 [.t x] rE) C L mk bp [h2],hs q o:=by
 intro o aC
 have a3:decide (q≤1)=false:=bA (by omega)
 have cz:decide (q≤2)=false:=bA (by omega)
 have eJ:decide (q≤3)=false:=bA (by omega)
 simp only[fK,iu,hp,nE,mG,mE]at aC
 rcases aC with rfl|rfl|rfl|rfl|⟨r,_,rfl⟩|rfl
 ·rfl
 ·rfl
 ·have:∀ l:List Nat,(∀ i∈l,i<L)→dw (bV q) (l.map fun i=>ah.ms (4+i) C 0 C 1 true)=true:=by
   intro l
   induction l with
   | nil=>intro _;rfl
   | cons i l au =>
    intro h
    have:=h i (by simp)
    simp only[gz,dw,cL,bV,au fun j aU=>h j (by simp[aU])]
    simp;omega
  exact this _ fun i hi=>vv.1 hi
 ·simp only[hs,dw,cL,bV,cz];rfl
 ·exact Kz (fun y ar=>by simp only[nE]at ar;obtain⟨z,_,rfl⟩:=ar;exact⟨_,rfl⟩) _ _ _
 ·simp only[hs,dw,cL,bV,a3,eJ];rfl
theorem amt(x:T)(rE C L mk:Nat){bp:List jb}(nT:jX C L bp)(E:aM)(g c1 c2 dh:Int)(dm:E 5=.t (.ip [I g,I c1,I c2,I dh])∧E 13=.ref 1 1 0 0∧E 16=.ref (L+1+1+1+1) 1 0 0)(aY:aj)(q:Nat)(aE:4+L+2≤q) :
  b5 (dk aY (bV q)) (fK (.row 2 [.t x] rE) C L mk bp [h2,pW E false])=some (fK (.row 2 [.t x] rE) C L mk bp [h2,pW E false]):=by
 have a3:decide (q≤1)=false:=bA (by omega)
 have a7:decide (q≤L+1+1+1+1)=false:=bA (by omega)
 obtain⟨bZ,KI,KJ⟩:=dm
 have fD:dk aY (bV q) (pW E false)=some (pW E false):=by
  rw[xo]
  simp only[go_sem,bZ,KI,KJ,a3,a7]
 have e:fK (.row 2 [.t x] rE) C L mk bp [h2,pW E false]=fK (.row 2 [.t x] rE) C L mk bp [h2]++[pW E false]:=by simp only[fK,dS,fU,ea]
 rw[e]
 exact Nc _ _ _ _ (Ch (QS x rE C L mk bp q (by omega))) (by simp only[b5,fD])
abbrev agl:a9:=.row 2 [.t (.agg [.aA (.slice none 0 0),.aA (.int .i64 0)])] 0
def zK(m:Nat)(es:List ib)(cj:Int)(fR gR pa:Nat)(w:T):aj:=List.replicate m .gone++[agl,.row 2 ((es.map gq).map .t) fR,.row 2 [.agg [.ms (m+1) es.length 0 es.length 2 false,.t (I cj)]] gR,.row 2 [.t w] pa]
theorem aqc:lL Tryz.prog cX 32=some ⟨50,To,[(4,some (true,2))]⟩:=by kernel_rfl
theorem E6{e:aM}{h:aj}:cc Tryz.prog cX 32 e h (.raw (eF Tryz.prog 32 1 5))=Bk [(0,2)] h (oZ h.length [(0,2)] ([(.aA (.slice none 0 0)),(.aA (.int .i64 0))].map .t)):=Jg (t:=97) (by kernel_rfl) (by kernel_rfl) (by kernel_rfl) (by kernel_rfl)
theorem E7{e:aM}{h:aj}:cc Tryz.prog cX 32 e h (.raw (eF Tryz.prog 32 1 6))=q6 (v8 2 (Src.get e (.v 5)) (x8 h (Src.get e (.v 5)) (Src.get e (.v 14))) h):=VA (t:=97) (a:=(.tmp 5)) (x:=(.tmp 14)) (by kernel_rfl) (by kernel_rfl) (by kernel_rfl)
theorem E8{e:aM}{h:aj}:cc Tryz.prog cX 32 e h (.raw (eF Tryz.prog 32 9 2))=fB h (nc Tryz.prog false 143 (.tmp 25) (.tmp 26) (Src.get e (.v 25)) (Src.get e (.v 26))):=E9 (x:=(.tmp 25)) (y:=(.tmp 26)) (s:=143) (by kernel_rfl)
theorem as4(c:Bool)(us:List Bool)(g:Int)(ao:us.length≤960)(ay:1≤g∧g≤10000)(m bn aR:Nat)(aw:1000<aR)(Q:ah→aj→Prop)
  (bI:∀ es fR gR pa w,fR≤es.length→ye us g us.length es→Q (.agg [.ms (m+1) es.length 0 es.length 2 false,.t (I ((us.length:Nat)*g))]) (List.replicate m .gone++[.row 2 [.agg [.ms (m+1) es.length 0 es.length 2 false,.t (I ((us.length:Nat)*g))]] 1,.row 2 ((es.map gq).map .t) fR,.row 2 [.agg [.ms (m+1) es.length 0 es.length 2 false,.t (I ((us.length:Nat)*g))]] gR,.row 2 [.t (gq w)] pa])) :
  ej (inl Tryz.prog cX (a0 Tryz.prog cX) aR (bn+1) (.fn 32) [.t (.aP c 1 (us.map B)),.t (I g)] (List.replicate m .gone)) Q:=by
 have j1:((us.length:Nat):Int)*g≤960*10000:=uo (by omega) ay.2 (by omega) (by omega)
 have kW:0≤((us.length:Nat):Int)*g:=s5 (by omega) (by omega)
 have cI:IntKind.i64.wrap ((us.length:Nat)*g)=(us.length:Nat)*g:=wrap_i64 (by omega) (by omega)
 refine lp aqc (bH rfl) ?_
 have EW:m+1+1=m+2:=rfl
 have DQ:m+4<m+5:=by omega
 have fm:∀ aY (cj:Int) (n I3:Nat),dk aY (bV (m+4)) (.row 2 [.agg [.ms (m+1) n 0 n 2 false,.t (I cj)]] I3)=some (.row 2 [.agg [.ms (m+1) n 0 n 2 false,.t (I cj)]] I3):=fun aY cj n I3=>by simp[dk,dw,cL,bV]
 have Wu:∀ aY,dV aY (bV (m+4)) (.ref m 1 0 0)=some (.ref m 1 0 0):=fun aY=>by simp[dV,jk,cL,bV]
 have JO:∀ aY,dV aY (bV (m+4)) (.ref (m+2) 1 0 0)=some (.ref (m+2) 1 0 0):=fun aY=>by simp[dV,jk,cL,bV]
 have Wv:∀ aY,dV aY (bV (m+4)) (.ref (m+3) 1 0 0)=some (.ref (m+3) 1 0 0):=fun aY=>by simp[dV,jk,cL,bV]
 have Fj:∀(a:a9) (l:aj),(List.replicate m a9.gone++a::l)[m]? = some a:=fun a l=>axj
 have Fe:∀(a b:a9) (l:aj),(List.replicate m a9.gone++a::b::l)[m+1]? = some b:=fun a b l=>NC (l:=a::b::l) (j:=1)
 have Ff:∀(a b c:a9) (l:aj),(List.replicate m a9.gone++a::b::c::l)[m+2]? = some c:=fun a b c l=>NC (l:=a::b::c::l) (j:=2)
 have Fg:∀(a b c d:a9) (l:aj),(List.replicate m a9.gone++a::b::c::d::l)[m+3]? = some d:=fun a b c d l=>NC (l:=a::b::c::d::l) (j:=3)
 have Fh:∀(a b c d x:a9) (l:aj),(List.replicate m a9.gone++a::b::c::d::x::l)[m+4]? = some x:=fun a b c d x l=>NC (l:=a::b::c::d::x::l) (j:=4)
 have yy:∀(a y:a9) (l:aj),List.set (List.replicate m a9.gone++a::l) m y=List.replicate m a9.gone++y::l:=fun a y l=>axk
 have Fl:∀(a b y:a9) (l:aj),List.set (List.replicate m a9.gone++a::b::l) (m+1) y=List.replicate m a9.gone++a::y::l:=fun a b y l=>ND (l:=a::b::l) (j:=1)
 have Fm:∀(a b c y:a9) (l:aj),List.set (List.replicate m a9.gone++a::b::c::l) (m+2) y=List.replicate m a9.gone++a::b::y::l:=fun a b c y l=>ND (l:=a::b::c::l) (j:=2)
 have Fo:∀(a b c d y:a9) (l:aj),List.set (List.replicate m a9.gone++a::b::c::d::l) (m+3) y=List.replicate m a9.gone++a::b::c::y::l:=fun a b c d y l=>ND (l:=a::b::c::d::l) (j:=3)
 have Fp:∀(a b c d x y:a9) (l:aj),List.set (List.replicate m a9.gone++a::b::c::d::x::l) (m+4) y=List.replicate m a9.gone++a::b::c::d::y::l:=fun a b c d x y l=>ND (l:=a::b::c::d::x::l) (j:=4)
 have Fq:∀(a b c d x:a9) (l:aj),(List.replicate m a9.gone++a::b::c::d::x::l).take (m+4)=List.replicate m a9.gone++[a,b,c,d]:=fun a b c d x l=>axl (l:=a::b::c::d::x::l) (j:=4)
 simp only[To,go_sem,Fj,Fe,Ff,Fg,Fh,yy,Fl,Fm,Fo,Fp,Fq,Fi,Dk,EW,DQ,fm,E6,E7,E8,fU,ic,cI,bJ]
 generalize ((us.length:Nat):Int)*g=cj at *
 refine hA us B (St:=fun i e ai=>∃ es fR gR pa w,(e 1=.t (I g)∧e 4=.ref m 1 0 0∧e 5=.ref (m+2) 1 0 0∧e 6=.ref (m+3) 1 0 0∧e 15=.t (.aP c 1 (us.map B))∧e 16=.t (I (us.length:Nat))∧e 17=.t (I (i:Nat)))∧ai=zK m es cj fR gR pa w∧fR≤es.length∧gR≤1∧pa≤1∧ye us g i es ∧
   (i=0∧es=[]∧w=gq (0,0)∨i≠0∧∃ b pre l,us[i-1]? = some b∧es=pre++[(iK b,l)]∧w=gq (iK b,g)))
  (Ex:=fun x e ai=>∃ es fR gR pa w,(e 4=.ref m 1 0 0∧e 5=.ref (m+2) 1 0 0)∧x=.exit 0∧ai=zK m es cj fR gR pa w∧fR≤es.length∧gR≤1∧ye us g us.length es∧∃ v,w=gq v) (by omega) ?_ ?_ (by omega) ?_ ?_
 ·rintro i x e ai Y R hm hi U bx aB hw ⟨es,fR,gR,pa,w,⟨s1,s2,a8,cY,bC,bt,dE⟩,rfl,a3,a7,cz,eB,je⟩ bW bk
  have aBX:=eB.n
  have af:(xj us i).length≤i:=by
   have:=AR (fun j=>decide (j=0∨us[j]? ≠ us[j-1]?)) (List.range i)
   rwa[Pc]at this
  have fr:(es.length+1)*16≤eQ:=l9 (by omega) (by omega)
  have eA:∀(q:Prop) (d:Decidable (False∧q)),@decide (False∧q) d=false:=fun q d=>bA fun h=>h.1
  have jy:decide ((127:Int)=iK false)=true:=by decide
  have jz:decide ((128:Int)=iK true)=true:=by decide
  have jA:decide ((127:Int)=iK true)=false:=by decide
  have Ou:decide ((128:Int)=iK false)=false:=by decide
  unfold zK
  have YX:((es.map gq).map ah.t).length=es.length:=by simp
  have gX:∀ p,dw p ((es.map gq).map ah.t)=true:=fun p=>zk _ _
  have x6:lY 2 es.length (some (.row 2 ((es.map gq).map .t) fR)):=⟨rfl,YX,a3⟩
  rcases je with⟨kY,iB,rfl⟩|⟨kY,b,pre,l,ab,iB,rfl⟩
  ·have aw:=ada ay.1 eB U (.inl kY)
   generalize eL:(es.map gq).map ah.t=L at *
   generalize jn:es.length=n at *
   cases x
   all_goals((repeat' first|simp only[Mn,Eu,go_sem,Fj,Fe,Ff,Fg,Fh,yy,Fl,Fm,Fo,Fp,Fq,Fi,Dk,EW,DQ,fm,E6,E7,E8,fU,ic,s1,s2,a8,cY,bC,bt,dE,aB,hw,bx,eA,fr,x6,gX,a3,a7,cz]|with_reducible first|refine aZ fun _=>?_|refine a1 ?_|fail))
   all_goals(refine bW _ _ ⟨_,fR,1,1,_,?_,?_,?_,by omega,by omega,aw,.inr ⟨by omega,_,es,g,U,rfl,rfl⟩⟩)
   all_goals(first|(simp only[go_sem,hw,Wu,JO,Wv];done)|(simp[zK,← eL,jn];done)|(simp[zK,← eL,jn];rfl)|(simp;omega))
  ·subst iB
   have hlen:(pre++[(iK b,l)]).length=pre.length+1:=by simp
   have fA:(pre++[(iK b,l)]).length-1=pre.length:=by simp
   have LN:IntKind.i64.wrap (((pre++[(iK b,l)]).length:Nat)-1:Int)=((pre.length:Nat):Int):=by rw[hlen];push_cast;rw[wrap_i64 (by omega) (by omega)];omega
   have jM:pre.length<(pre++[(iK b,l)]).length:=by omega
   have eT:(((pre++[(iK b,l)]).map gq).map ah.t)[pre.length]? = some (.t (gq (iK b,l))):=by simp
   have aS:∀ y,(((pre++[(iK b,l)]).map gq).map ah.t).set pre.length (.t (gq y))=((pre++[y]).map gq).map ah.t:=fun y=>by simp
   have amJ:∀ p y,dw p ((((pre++[(iK b,l)]).map gq).map ah.t).set pre.length (.t (gq y)))=true:=fun p y=>by rw[aS];exact zk _ _
   have amK:∀ p m gg,dw p ((((pre++[(iK b,l)]).map gq).map ah.t).set pre.length (.t (T.agg [I m,I gg])))=true:=fun p m gg=>amJ p (m,gg)
   have eC:=(eB.e (iK b,l) (by simp)).2
   have aB9:((i:Nat):Int)*g≤960*10000:=uo (by omega) ay.2 (by omega) (by omega)
   simp only at eC
   have aoK:IntKind.i64.wrap (l+g)=l+g:=wrap_i64 (by omega) (by omega)
   by_cases HM:x=b
   ·subst HM
    have aw:=atg ay.1 eB U ab kY
    generalize eL:((pre++[(iK x,l)]).map gq).map ah.t=L at *
    generalize jn:(pre++[(iK x,l)]).length=n at *
    have aW:=aS (iK x,l+g)
    have bw:(pre++[(iK x,l+g)]).length=n:=by rw[← jn];simp
    cases x
    all_goals((repeat' first|simp only[Mn,Eu,go_sem,Fj,Fe,Ff,Fg,Fh,yy,Fl,Fm,Fo,Fp,Fq,Fi,Dk,EW,DQ,fm,E6,E7,E8,fU,ic,s1,s2,a8,cY,bC,bt,dE,aB,hw,bx,jy,jz,LN,jM,eT,aoK,YX,x6,gX,amK,a3,a7,cz]|with_reducible first|refine aZ fun _=>?_|refine a1 ?_|fail))
    all_goals(refine bW _ _ ⟨_,n,gR,1,_,?_,?_,?_,by omega,by omega,aw,.inr ⟨by omega,_,pre,l+g,U,rfl,rfl⟩⟩)
    all_goals(first|(simp only[go_sem,hw,Wu,JO,Wv];done)|(unfold zK;rw[bw,← aW];rfl)|(simp;omega))
   ·have aw:=ada ay.1 eB U (.inr (by rw[U,ab];simpa using HM))
    generalize eL:((pre++[(iK b,l)]).map gq).map ah.t=L at *
    generalize jn:(pre++[(iK b,l)]).length=n at *
    have cB:(((pre++[(iK b,l)])++[(iK x,g)]).map gq).map ah.t=L++[.t (gq (iK x,g))]:=by rw[← eL];simp
    have bZ:((pre++[(iK b,l)])++[(iK x,g)]).length=n+1:=by rw[← jn];simp
    cases x
    all_goals(cases b)
    all_goals(first|exact absurd rfl HM|skip)
    all_goals((repeat' first|simp only[Mn,Eu,go_sem,Fj,Fe,Ff,Fg,Fh,yy,Fl,Fm,Fo,Fp,Fq,Fi,Dk,EW,DQ,fm,E6,E7,E8,fU,ic,s1,s2,a8,cY,bC,bt,dE,aB,hw,bx,jA,Ou,fr,x6,gX,a3,a7,cz]|with_reducible first|refine aZ fun _=>?_|refine a1 ?_|fail))
    all_goals(refine bW _ _ ⟨_,fR,1,1,_,?_,?_,?_,by omega,by omega,aw,.inr ⟨by omega,_,_,g,U,rfl,rfl⟩⟩)
    all_goals(first|(simp only[go_sem,hw,Wu,JO,Wv];done)|(unfold zK;rw[cB,bZ];rfl)|(rw[bZ];omega))
 ·rintro e ai Y R aB ⟨es,fR,gR,pa,w,⟨s1,s2,a8,cY,bC,bt,dE⟩,rfl,a3,a7,cz,eB,je⟩ bk
  simp only[Mn,Eu,go_sem,Fj,Fe,Ff,Fg,Fh,yy,Fl,Fm,Fo,Fp,Fq,Fi,Dk,EW,DQ,fm,E6,E7,E8,fU,ic,s1,s2,a8,cY,bC,bt,dE,aB]
  all_goals(refine bk _ _ _ ⟨es,fR,gR,pa,w,?_,rfl,rfl,a3,a7,eB,by rcases je with⟨_,_,e⟩|⟨_,_,_,_,_,_,e⟩<;>exact⟨_,e⟩⟩;simp only[go_sem,s2,a8])
 ·refine⟨[],0,1,0,_,?_,rfl,by simp,by omega,by omega,ath,.inl ⟨rfl,rfl,rfl⟩⟩
  simp only[go_sem]
 ·rintro x e ai ⟨es,fR,gR,pa,w,⟨s2,a8⟩,rfl,rfl,a3,a7,eB,v,rfl⟩
  unfold zK
  simp only[To,go_sem,Fj,Fe,Ff,Fg,Fh,yy,Fl,Fm,Fo,Fp,Fq,Fi,Dk,EW,DQ,fm,E6,E7,E8,fU,ic,s2,a8,a3,a7]
  all_goals exact bI es _ _ _ _ a3 eB
abbrev rQ:T:=.agg [gN,I 0]
abbrev rB(cj:Int)(L:Nat)(gs:List (List ib))(aG:Nat):a9:=.row 2 ((gs.map fun es=>gW false es cj).map .t++List.replicate (L-gs.length) (ah.t rQ)) aG
def EV(C:Nat)(g:Int)(bp:List jb)(gs:List (List ib)):Prop:=∀(q:Nat) es,gs[q]? = some es→∃ r,bp[q]? = some r∧ye r.1 g C es
theorem ats{h:aj}{p:Nat→Bool}{v bU:ah}(az:dV h p v=some bU)(B:List T):∀ A:List T,b5 (dV h p) (A.map .t++v::B.map .t)=some (A.map .t++bU::B.map .t):=by
 have ax:∀ x:T,dV h p (.t x)=some (.t x):=fun x=>by simp[dV,jk,cL]
 have pN:b5 (dV h p) (B.map .t)=some (B.map .t):=by
  induction B with
  | nil=>rfl
  | cons y B au=>simp only[gz,b5,ax,au]
 intro A
 induction A with
 | nil=>simp only[nB,ea,b5,az,pN]
 | cons y A au=>simp only[gz,dS,b5,ax,au]
theorem ahb{p:Nat→Bool}{v:ah}{B:List ah}(az:cL p v=false):∀ A:List T,dw p (A.map .t++v::B)=false:=by
 intro A
 induction A with
 | nil=>simp only[nB,ea,dw,az,vw]
 | cons y A au=>simp only[gz,dS,dw,au,O7]
theorem avf(l:List ib):qF ((l.map gq).map .t)=true:=by
 induction l with
 | nil=>rfl
 | cons x l au =>
  simp only[gz,adM,au];rfl
section
variable(x:T)(C L mk:Nat)(g8:mk≤L)(fy:1≤C∧C≤960)(eL:L≤48)(g:Int)(ay:1≤g∧g≤10000)(c1 c2 dh:Int)(bp:List jb)(nT:jX C L bp)
include g8 fy eL ay nT
theorem ajv(bn aR:Nat)(aw:1000<aR)(R:cW→aM→aj→Prop)(e:aM)
  (he:e 5=.t (.ip [I g,I c1,I c2,I dh])∧e 14=.ref 3 1 0 0∧e 20=.ms (L+1+1+1+1+1) L 0 L 2 true∧e 111=.t (I (L:Nat))∧e 112=.t (I 0))
  (bk:∀ e gs aG,gs.length=L→aG≤L→EV C g bp gs→(e 20=.ms (L+1+1+1+1+1) L 0 L 2 true)→R (.exit 6) e (fK (.row 2 [.t x] 1) C L mk bp [h2,rB (C*g) L gs aG])) :
  gP (L+1+1+1+1+1+1) (some [5,14,20,111,112]) (c6 Tryz.prog cX (a0 Tryz.prog cX) (inl Tryz.prog cX (a0 Tryz.prog cX) aR (bn+1)) aR 12 SY) R aR e (fK (.row 2 [.t x] 1) C L mk bp [h2,rB (C*g) L [] 0]):=by
 have oY:∀(a b c d:a9) (Y:aj) (q:Nat),(a::b::c::d::Y)[4+q]? = Y[q]?:=fun a b c d Y q=>by rw[show 4+q=q+1+1+1+1 by omega];rfl
 have nh:=nT.l
 have G6:∀(x y:a9) (Y:aj),(bp.map jw++x::y::Y)[L+1]? = some y:=fun x y Y=>by rw[g5 (by simp[nh])];simp[nh]
 have N5:∀(x y z:a9) (Y:aj),(bp.map jw++x::y::Y).set (L+1) z=bp.map jw++x::z::Y:=fun x y z Y=>by rw[AM _ _ (by simp[nh])];simp[nh]
 refine hA (List.replicate L ()) (fun _=>B true) (St:=fun i e ai=>∃ gs aG,(e 5=.t (.ip [I g,I c1,I c2,I dh])∧e 14=.ref 3 1 0 0∧e 20=.ms (L+1+1+1+1+1) L 0 L 2 true∧e 111=.t (I (L:Nat))∧e 112=.t (I (i:Nat)))∧gs.length=i∧aG≤L∧EV C g bp gs∧ai=fK (.row 2 [.t x] 1) C L mk bp [h2,rB (C*g) L gs aG])
  (Ex:=fun eX e ai=>eX=.exit 6∧∃ gs aG,gs.length=L∧aG≤L∧EV C g bp gs∧(e 20=.ms (L+1+1+1+1+1) L 0 L 2 true)∧ai=fK (.row 2 [.t x] 1) C L mk bp [h2,rB (C*g) L gs aG]) (by simp;omega) ?_ ?_ (by simp;omega) ⟨[],0,he,rfl,by omega,fun q es aE=>by simp at aE,rfl⟩ ?_
 ·rintro i eX e ai Y gn hm hi v7 bx aB hw ⟨gs,aG,⟨bC,lr,Fv,Jq,Jr⟩,eT,bN,mS,rfl⟩ bW fl
  rw[ic]at aB hi
  obtain⟨r,al⟩:∃ r,bp[i]? = some r:=⟨_,fC (by omega)⟩
  obtain⟨lQ,tC⟩:=nT.r r (gp al)
  have UG:=fun m Q bI=>as4 true r.1 g (by omega) ay m bn aR aw Q bI
  rw[lQ]at UG
  have Qu:((List.range L).map fun i=>ah.ms (4+i) C 0 C 1 true)[i]? = some (.ms (4+i) C 0 C 1 true):=by simp[hi]
  have UJ:((List.range L).map fun i=>ah.ms (4+i) C 0 C 1 true).length=L:=by simp
  have tw:∀ Z:aj,(bp.map jw++Z)[i]? = some (.row 1 ((r.1.map B).map .t) r.2):=fun Z=>by rw[fv (by simp;omega),eE,al];rfl
  have jl:gU (fK (.row 2 [.t x] 1) C L mk bp [h2,rB (C*g) L gs aG]) 1 (.ms (4+i) C 0 C 1 true)=some ((r.1.map B).map .t):=by
   have Zu:(fK (.row 2 [.t x] 1) C L mk bp [h2,rB (C*g) L gs aG])[4+i]? = some (.row 1 ((r.1.map B).map .t) r.2):=by rw[fK,oY];exact tw _
   rw[GO (by rw[Zu];exact⟨rfl,by simp[lQ],tC⟩),Zu];rfl
  have ox:b5 (snap (fK (.row 2 [.t x] 1) C L mk bp [h2,rB (C*g) L gs aG]) (z8 (jF [.ms (4+i) C 0 C 1 true,.t (I g)])) 20) [.ms (4+i) C 0 C 1 true,.t (I g)]=some [.aP true 1 (r.1.map B),I g]:=by
   have ano:z8 (jF [.ms (4+i) C 0 C 1 true,.t (I g)]) (4+i)=true:=by simp[z8,jF,names]
   simp only[b5,snap,ano,cQ,jl,UY]
  have dx:iw cX (a0 Tryz.prog cX) (inl Tryz.prog cX (a0 Tryz.prog cX) aR (bn+1)) 12 123 (.fn 32) [.ms (4+i) C 0 C 1 true,.t (I g)] (fK (.row 2 [.t x] 1) C L mk bp [h2,rB (C*g) L gs aG])=_:=aiC rfl rfl rfl ox
  have gk:((gs.map fun es=>gW false es (C*g)).map ah.t++List.replicate (L-gs.length) (ah.t rQ)).length=L:=by simp;omega
  have D4:((gs.map fun es=>gW false es (C*g)).map ah.t++List.replicate (L-gs.length) (ah.t rQ))[i]? = some (.t rQ):=by
   rw[g5 (by simp;omega),s7,a6 (by simp;omega)]
  obtain⟨k,an⟩:∃ k,L-gs.length=k+1:=⟨L-gs.length-1,by omega⟩
  have RE:∀ v,((gs.map fun es=>gW false es (C*g)).map ah.t++List.replicate (L-gs.length) (ah.t rQ)).set i v=(gs.map fun es=>gW false es (C*g)).map ah.t++v::(List.replicate k rQ).map .t:=fun v=>by
   rw[an,pB,AM _ _ (by simp;omega)]
   simp[eT]
  have Rr:gs.length+(L-gs.length)=L:=by omega
  (repeat' first|simp only[SZ,Ig,go_sem,bC,lr,Fv,Jq,Jr,aB,hw,Qu,UJ,hi,g8,oY,tw,G6,N5,nh,gk,D4,bN,jl,dx]|with_reducible first|refine aZ fun _=>?_|refine a1 ?_|fail)
  with_reducible refine UG _ _ ?_
  intro es mr pb yf ww tA iB
  have c1':decide (L+2+1+1+1+1+1<L+2+1+1+1+1)=false:=bA (by omega)
  have kI:=avf es
  have gX:∀ p,dw p ((es.map gq).map ah.t)=true:=fun p=>zk _ _
  have hy:∀ e,iq (L+1+1+1+1+1+1) e (.row 2 [.t x] 1::.row 1 [.t (I (C:Nat))] 1::vr C L mk::.row 1 [.ms 2 L 0 L 1 true] 1::(bp.map jw++[h2,.row 2 ((gs.map fun es=>gW false es (C*g)).map ah.t++.agg [.ms (L+2+1+1+1+1+1) es.length 0 es.length 2 false,.t (I ((C:Nat)*g))]::(List.replicate k rQ).map .t) L,.row 2 [.agg [.ms (L+2+1+1+1+1+1) es.length 0 es.length 2 false,.t (I ((C:Nat)*g))]] 1,.row 2 ((es.map gq).map .t) mr,.row 2 [.agg [.ms (L+2+1+1+1+1+1) es.length 0 es.length 2 false,.t (I ((C:Nat)*g))]] pb,.row 2 [.t (gq ww)] yf]))=some (kV (.row 2 [.t x] 1::.row 1 [.t (I (C:Nat))] 1::vr C L mk::.row 1 [.ms 2 L 0 L 1 true] 1::(bp.map jw++[h2,.row 2 ((gs.map fun es=>gW false es (C*g)).map ah.t++.agg [.ms (L+2+1+1+1+1+1) es.length 0 es.length 2 false,.t (I ((C:Nat)*g))]::(List.replicate k rQ).map .t) L,.row 2 [.agg [.ms (L+2+1+1+1+1+1) es.length 0 es.length 2 false,.t (I ((C:Nat)*g))]] 1,.row 2 ((es.map gq).map .t) mr,.row 2 [.agg [.ms (L+2+1+1+1+1+1) es.length 0 es.length 2 false,.t (I ((C:Nat)*g))]] pb,.row 2 [.t (gq ww)] yf])) (bV (L+1+1+1+1+1+1)) e,fK (.row 2 [.t x] 1) C L mk bp [h2,rB (C*g) L (gs++[es]) L]):=fun e=>by
   have Ld:(bp.map jw).length=L:=by simp[nh]
   unfold iq
   rw[a2 (by simp[nh])]
   generalize uK:(a9.row 2 [.t x] 1::.row 1 [.t (I (C:Nat))] 1::vr C L mk::.row 1 [.ms 2 L 0 L 1 true] 1::(bp.map jw++[h2,.row 2 ((gs.map fun es=>gW false es (C*g)).map ah.t++.agg [.ms (L+2+1+1+1+1+1) es.length 0 es.length 2 false,.t (I ((C:Nat)*g))]::(List.replicate k rQ).map .t) L,.row 2 [.agg [.ms (L+2+1+1+1+1+1) es.length 0 es.length 2 false,.t (I ((C:Nat)*g))]] 1,.row 2 ((es.map gq).map .t) mr,.row 2 [.agg [.ms (L+2+1+1+1+1+1) es.length 0 es.length 2 false,.t (I ((C:Nat)*g))]] pb,.row 2 [.t (gq ww)] yf]):aj)=H
   have k2:H.take (L+1+1+1+1+1+1)=fK (.row 2 [.t x] 1) C L mk bp [h2]++[.row 2 ((gs.map fun es=>gW false es (C*g)).map ah.t++.agg [.ms (L+2+1+1+1+1+1) es.length 0 es.length 2 false,.t (I ((C:Nat)*g))]::(List.replicate k rQ).map .t) L]:=by
    rw[← uK,qV,qV,qV,qV,y3,Ld,l8 (by omega),show L+1+1-L=2 by omega]
    simp only[fK,dS,fU];rfl
   have iD:H[L+2+1+1+1+1+1]? = some (.row 2 ((es.map gq).map .t) mr):=by
    rw[← uK,show L+2+1+1+1+1+1=(L+3)+1+1+1+1 by omega,pA,pA,pA,pA,g5 (by omega),Ld,show L+3-L=3 by omega];rfl
   have lP:bV (L+1+1+1+1+1+1) (L+2+1+1+1+1+1)=true:=bY (by omega)
   have Y7:cL (bV (L+1+1+1+1+1+1)) (.agg [.ms (L+2+1+1+1+1+1) es.length 0 es.length 2 false,.t (I ((C:Nat)*g))])=false:=by simp[cL,dw,lP]
   have iC:dV H (bV (L+1+1+1+1+1+1)) (.agg [.ms (L+2+1+1+1+1+1) es.length 0 es.length 2 false,.t (I ((C:Nat)*g))])=some (.t (gW false es (C*g))):=by
    rw[alm Y7 (cs':=[.t (.aP false 2 (es.map gq)),.t (I ((C:Nat)*g))]) (by simp only[b5,alh,ali,alq lP iD tA rfl])];rfl
   have sq:b5 (dk H (bV (L+1+1+1+1+1+1))) [.row 2 ((gs.map fun es=>gW false es (C*g)).map ah.t++.agg [.ms (L+2+1+1+1+1+1) es.length 0 es.length 2 false,.t (I ((C:Nat)*g))]::(List.replicate k rQ).map .t) L]=some [rB (C*g) L (gs++[es]) L]:=by
    have aW:(gs.map fun es=>gW false es (C*g)).map ah.t++.t (gW false es (C*g))::(List.replicate k rQ).map .t=((gs++[es]).map fun es=>gW false es (C*g)).map .t++List.replicate (L-(gs++[es]).length) (ah.t rQ):=by simp[eT,show L-(i+1)=k by omega]
    simp only[b5,dk,ahb Y7,fJ,et,ats iC,aW]
   rw[k2,Nc _ _ _ _ (Ch (QS x 1 C L mk bp _ (by omega))) sq]
   simp only[fK,dS,fU,ea]
  have Ow:∀ aY,dV aY (bV (L+1+1+1+1+1+1)) (.ref 3 1 0 0)=some (.ref 3 1 0 0):=fun aY=>by simp[dV,jk,cL,bV]
  have JO:∀ aY,dV aY (bV (L+1+1+1+1+1+1)) (.ms (L+1+1+1+1+1) L 0 L 2 true)=some (.ms (L+1+1+1+1+1) L 0 L 2 true):=fun aY=>by simp[dV,jk,cL,bV]
  have anl:EV C g bp (gs++[es]):=fun q gI aE=>by
   by_cases LF:q<gs.length
   ·rw[fv LF]at aE;exact mS q gI aE
   ·have:q=gs.length:=by have:=(cD.1 aE).1;simp at this;omega
    subst this
    simp only[y0,Option.some.injEq]at aE
    subst aE
    rw[eT]
    exact⟨r,al,iB⟩
  (repeat' first|simp only[SZ,Ig,go_sem,bC,lr,Fv,Jq,Jr,nh,axi,c1',kI,gX,bP,Nat.le_add_right,ic,hi,Rr,D4,RE,G6,N5,bN,fU,hy,hw]|with_reducible first|refine aZ fun _=>?_|refine a1 ?_|fail)
  all_goals(refine bW _ _ ⟨gs++[es],L,?_,by simp[eT],bP _,anl,rfl⟩;simp only[go_sem,bC,lr,Fv,Jq,hw,Ow,JO])
 ·rintro e ai Y gn aB ⟨gs,aG,⟨bC,lr,Fv,Jq,Jr⟩,eT,bN,mS,rfl⟩ fl
  rw[ic]at eT Jr aB
  simp only[SZ,Ig,go_sem,bC,lr,Fv,Jq,Jr,aB]
  all_goals(refine fl _ _ _ ⟨rfl,gs,aG,eT,bN,mS,?_,rfl⟩;simp only[go_sem,Fv])
 ·rintro eX e ai ⟨rfl,gs,aG,eT,bN,mS,QF,rfl⟩
  exact bk e gs aG eT bN mS QF
end
def iQ(bp:List jb)(q j:Nat):Bool:=match bp[q]? with
 | some r=>r.1[j]?.getD false
 | none=>false
theorem ah3{C L:Nat}{bp:List jb}(h:jX C L bp){q k:Nat}(aE:q<L)(an:k<C)(ju j:Nat):iQ (CG bp q k) ju j=true↔iQ bp ju j=true∨(ju=q∧j=k):=by
 have xY:q<bp.length:=by rw[h.l];exact aE
 obtain⟨r,al⟩:∃ r,bp[q]? = some r:=⟨_,fC xY⟩
 have lQ:=(h.r r (gp al)).1
 have e:CG bp q k=bp.set q (r.1.set k true,r.1.length):=by rw[CG,al]
 rw[e]
 by_cases HA:ju=q
 ·subst HA
  unfold iQ
  rw[l7 xY,al]
  simp only
  by_cases aU:j=k
  ·subst aU
   rw[l7 (by omega)];simp
  ·rw[iv (fun e=>aU e.symm)];simp[aU]
 ·unfold iQ
  rw[iv (fun e=>HA e.symm)];simp[HA]
theorem ah1{C L:Nat}(fy:1≤C){bp:List jb}(h:jX C L bp){q:Nat}(aE:q<L)(a ju j:Nat):∀ n,iQ (oB C bp q a n) ju j=true↔iQ bp ju j=true∨(ju=q∧∃ i,i<n∧j=(a+i) % C):=by
 intro n
 induction n with
 | zero=>simp[oB]
 | succ n au =>
  rw[oB,ah3 (JT h q a n) aE (mF _ (by omega)),au]
  constructor
  ·rintro((h|⟨ad,i,ag,aJ⟩)|⟨ad,ag⟩)
   ·exact .inl h
   ·exact .inr ⟨ad,i,by omega,aJ⟩
   ·exact .inr ⟨ad,n,by omega,ag⟩
  ·rintro(h|⟨ad,i,ag,aJ⟩)
   ·exact .inl (.inl h)
   ·by_cases e:i=n
    ·subst e;exact .inr ⟨ad,aJ⟩
    ·exact .inl (.inr ⟨ad,i,by omega,aJ⟩)
def pE(g:Int)(w:hn)(i:Nat):Nat:=((w.bQ+(i:Nat)*w.e0) / g).toNat
theorem ah4{C L:Nat}(fy:1≤C){bp:List jb}(h:jX C L bp){g:Int}{w:hn}(hw:w.fN<L)(q j:Nat):∀ n,iQ (pq C g w bp n) q j=true↔iQ bp q j=true∨(q=w.fN∧∃ i,i<n∧∃ x,x<mA g w∧j=(pE g w i+x) % C):=by
 intro n
 induction n with
 | zero=>simp[pq]
 | succ n au =>
  rw[pq,ah1 fy (w3 g w h n) hw,au]
  constructor
  ·rintro((h|⟨ad,i,ag,aJ⟩)|⟨ad,ag⟩)
   ·exact .inl h
   ·exact .inr ⟨ad,i,by omega,aJ⟩
   ·exact .inr ⟨ad,n,by omega,ag⟩
  ·rintro(h|⟨ad,i,ag,aJ⟩)
   ·exact .inl (.inl h)
   ·by_cases e:i=n
    ·subst e;exact .inr ⟨ad,aJ⟩
    ·exact .inl (.inr ⟨ad,i,by omega,aJ⟩)
theorem ah2{C L:Nat}(fy:1≤C){g:Int}(q j:Nat):∀(W:List hn) (bp:List jb),jX C L bp→(∀ w∈W,w.fN<L)→(iQ (W.foldl (CT C g) bp) q j=true↔iQ bp q j=true∨∃ w∈W,q=w.fN∧∃ i,i<rz C g w∧∃ x,x<mA g w∧j=(pE g w i+x) % C):=by
 intro W
 induction W with
 | nil=>intro bp h _;simp
 | cons w W au =>
  intro bp h hQ
  rw[p8,au (CT C g bp w) (w3 g w h _) (fun x U=>hQ x (by simp[U])),CT,ah4 fy h (hQ w (by simp))]
  constructor
  ·rintro((h|h)|⟨w',ad,ag⟩)
   ·exact .inl h
   ·exact .inr ⟨w,by simp,h⟩
   ·exact .inr ⟨w',by simp[ad],ag⟩
  ·rintro(h|⟨w',ad,ag⟩)
   ·exact .inl (.inl h)
   ·rcases iu.1 ad with rfl|ad
    ·exact .inl (.inr ag)
    ·exact .inr ⟨w',ad,ag⟩
theorem ah5(C L q j:Nat):iQ (sR C L) q j=false:=by
 unfold iQ
 cases aE:(sR C L)[q]? with
 | none=>rfl
 | some r =>
  have:=WZ (gp aE)
  subst this
  simp only
  rw[s7]
  split<;>rfl
theorem Xs{C L:Nat}(fy:1≤C){g:Int}{W:List hn}(hQ:∀ w∈W,w.fN<L)(q j:Nat):iQ (qB C L g W) q j=true↔∃ w∈W,q=w.fN∧∃ i,i<rz C g w∧∃ x,x<mA g w∧j=(pE g w i+x) % C:=by
 rw[qB,ah2 fy q j W _ (FX C L) hQ,ah5];simp
theorem at9:∀(l:List Nat),l.Nodup→∀ r:List Nat,(∀ x∈l,x∈r)→l.length≤r.length:=by
 intro l
 induction l with
 | nil=>intro _ r _;simp
 | cons x l au =>
  intro aw r al
  obtain⟨ad,ag⟩:=AS.1 aw
  have U:=al x (by simp)
  have:=au ag (r.erase x) fun y ar=>(List.mem_erase_of_ne (fun e=>ad (by rw[← e];exact ar))).2 (al y (by simp[ar]))
  rw[List.length_erase_of_mem U]at this
  have:=List.length_pos_of_mem U
  rw[jc];omega
def FE(C:Nat)(g:Int)(W:List hn)(q:Nat)(f:hn→Nat→Nat):List Nat:=W.flatMap fun w=>if w.fN=q then(List.range (rz C g w)).map (f w)else[]
def qN(C:Nat)(g:Int)(W:List hn)(q:Nat):Nat:=(W.map fun w=>if w.fN=q then rz C g w else 0).sum
theorem ae3(C:Nat)(g:Int)(q:Nat)(f:hn→Nat→Nat):∀ W,(FE C g W q f).length=qN C g W q:=by
 intro W
 induction W with
 | nil=>rfl
 | cons w W au =>
  unfold FE qN at *
  rw[C9,gT,gz,y8,au]
  congr 1
  split<;>simp
theorem ae4{C:Nat}{g:Int}{W:List hn}{q:Nat}{f:hn→Nat→Nat}{w:hn}(hw:w∈W)(aE:q=w.fN){i:Nat}(hi:i<rz C g w):f w i∈FE C g W q f:=by
 unfold FE
 refine O1.2 ⟨w,hw,?_⟩
 rw[a6 aE.symm]
 exact JX (vv.2 hi)
theorem ai2{C L:Nat}(fy:1≤C){g:Int}{W:List hn}(hQ:∀ w∈W,w.fN<L){q:Nat}{r:jb}(al:(qB C L g W)[q]? = some r):(xj r.1 C).length≤1+2*qN C g W q:=by
 have ams:=OK (g:=g) W _ (FX C L)
 have jo:=(ams.r r (gp al)).1
 have ab:∀ j,j<C→(r.1[j]? = some true↔∃ w∈W,q=w.fN∧∃ i,i<rz C g w∧∃ x,x<mA g w∧j=(pE g w i+x) % C):=fun j aU=>by
  rw[← Xs fy hQ q j]
  unfold iQ
  rw[al]
  simp only
  rw[fC (by omega)]
  simp
 have az:∀ j,j<C→r.1[j]? = some true∨r.1[j]? = some false:=fun j aU=>by
  rw[fC (by omega)]
  cases r.1[j]<;>simp
 have Sd:∀ j∈xj r.1 C,j∈0::(FE C g W q (fun w i=>pE g w i % C)++FE C g W q (fun w i=>(pE g w i+mA g w) % C)):=by
  intro j aU
  simp only[xj,AT,vv,ho]at aU
  obtain⟨Lt,aU⟩:=aU
  by_cases bo:j=0
  ·simp[bo]
  ·rcases aU with h|eo
   ·exact absurd h bo
   refine Kb _ (hp.2 ?_)
   rcases az j Lt with ad|ad
   ·have ag:r.1[j-1]? ≠ some true:=fun ag=>eo (ad.trans ag.symm)
    obtain⟨w,hw,aE,i,hi,x,U,zE⟩:=(ab j Lt).1 ad
    cases x with
    | zero=>left;rw[zE,s0];exact ae4 (f:=fun w i=>pE g w i % C) hw aE hi
    | succ x =>
     refine absurd ((ab (j-1) (by omega)).2 ⟨w,hw,aE,i,hi,x,by omega,?_⟩) ag
     have e:pE g w i+(x+1)=(pE g w i+x)+1:=by omega
     rw[e,Nat.add_mod,]at zE
     have aB:=mF (pE g w i+x) (show 0<C by omega)
     generalize (pE g w i+x) % C=y at *
     by_cases aBS:C=1
     ·omega
     ·rw[Da (show 1<C by omega)]at zE
      by_cases ar:y+1<C
      ·rw[Da ar]at zE;omega
      ·have:y+1=C:=by omega
       rw[this,Nat.mod_self]at zE;omega
   ·have ag:r.1[j-1]? = some true:=by
     rcases az (j-1) (by omega)with h|h
     ·exact h
     ·exact absurd (ad.trans h.symm) eo
    obtain⟨w,hw,aE,i,hi,x,U,zE⟩:=(ab (j-1) (by omega)).1 ag
    have rf:j=(pE g w i+(x+1)) % C:=by
     have e:pE g w i+(x+1)=(pE g w i+x)+1:=by omega
     rw[e,Nat.add_mod,← zE,Da (show 1<C by omega),show j-1+1=j by omega,Da Lt]
    by_cases ko:x+1<mA g w
    ·have:=(ab j Lt).2 ⟨w,hw,aE,i,hi,x+1,ko,rf⟩
     rw[this]at ad;cases ad
    ·right
     rw[rf,show x+1=mA g w by omega]
     exact ae4 (f:=fun w i=>(pE g w i+mA g w) % C) hw aE hi
 have km:(xj r.1 C).Nodup:=List.Nodup.sublist List.filter_sublist List.nodup_range
 have:=at9 _ km _ Sd
 rw[jc,gT,ae3,ae3]at this
 omega
def wx(l:List dg):List Int:=(l.filter fun s=>decide (s.cls=7)).map (·.aK)
def vg(t:bR)(u:fZ):List dg→Nat→List fp
 | [],_=>[]
 | s::l,i=>if s.cls=7 then k7 t u s i s.dv++vg t u l (i+1)else vg t u l i
theorem Nt(s:dg)(l:List dg):wx (s::l)=if s.cls=7 then s.aK::wx l else wx l:=by
 unfold wx
 rw[F6]
 by_cases h:s.cls=7<;>simp[h]
theorem Vp(l:List dg):(wx l).length=oJ l:=by simp[wx,oJ]
theorem axU(s:dg)(l:List dg):oJ (s::l)=if s.cls=7 then oJ l+1 else oJ l:=by
 rw[← Vp,← Vp,Nt];split<;>simp
theorem ak8(t:bR)(u:fZ):∀(l:List dg) (q:b7 × Bool),(l.foldl (po t u) q).1=⟨q.1.aK++wx l,q.1.dr++vg t u l q.1.aK.length⟩:=by
 intro l
 induction l with
 | nil=>intro q;simp[wx,vg]
 | cons s l au =>
  intro q
  rw[p8,au,Nt,vg]
  unfold po
  by_cases h:s.cls=7
  ·rw[a6 h,a6 h,a6 h];simp
  ·rw[a2 h,a2 h,a2 h]
theorem Vb(t:bR)(u:fZ)(l:List dg):(b2 t u l).1=⟨wx l,vg t u l 0⟩:=by
 unfold b2
 rw[ak8];simp
def lz(p:b7)(all:Int)(q:Nat)(us:List fp):Int:=(us.map fun v=>if v.port=((q:Nat):Int)then all / bT p v.str else 0).sum
theorem Wf(p:b7)(all:Int)(q:Nat)(us:List fp):vj p all (us.filter fun v=>decide (v.port=((q:Nat):Int)))=lz p all q us:=by
 have key:∀(us:List fp) (a:Int),(us.filter fun v=>decide (v.port=((q:Nat):Int))).foldl (fun a u=>a+all / bT p u.str) a=a+lz p all q us:=by
  intro us
  induction us with
  | nil=>intro a;simp[lz]
  | cons v us au =>
   intro a
   rw[F6]
   by_cases h:v.port=((q:Nat):Int)
   ·simp only[h,decide_true,cQ,p8,au]
    simp[lz,h];omega
   ·simp only[h,decide_false,fJ,et,au]
    simp[lz,h]
 unfold vj
 rw[key];omega
theorem Wg(p:b7)(all:Int)(q:Nat)(a b:List fp):lz p all q (a++b)=lz p all q a+lz p all q b:=by simp[lz]
theorem ae2(C:Nat)(g:Int)(a b:List hn)(q:Nat):qN C g (a++b) q=qN C g a q+qN C g b q:=by simp[qN]
section
variable(t:bR)(u:fZ)(C:Nat)(ay:1≤u.g)(p:b7)(q:Nat)
include ay
theorem az0{s:dg}{i:Nat}(hi:bT p (i:Nat)=s.aK)(av:1≤s.aK)(x:Int):∀ H:List rU,((qN C u.g (H.map (qO u s x)) q:Nat):Int)=lz p (C:Nat) q (H.map (wP u s i)):=by
 intro H
 induction H with
 | nil=>rfl
 | cons y H au =>
  have aT:qN C u.g ((y::H).map (qO u s x)) q=(if y.fN=q then rz C u.g (qO u s x y)else 0)+qN C u.g (H.map (qO u s x)) q:=by simp[qN,qO]
  have aW:lz p (C:Nat) q ((y::H).map (wP u s i))=(if((y.fN:Nat):Int)=(q:Nat)then(C:Nat) / bT p (i:Nat)else 0)+lz p (C:Nat) q (H.map (wP u s i)):=by simp[lz,wP]
  rw[aT,aW,Kc,au]
  congr 1
  by_cases h:y.fN=q
  ·rw[a6 h,a6 (by rw[h]),hi]
   unfold rz qO
   simp only
   have bo:0≤((C:Nat):Int) / s.aK:=uB (by omega) (by omega)
   rw[Int.mul_ediv_mul_of_pos_left _ _ (by omega),uw bo]
  ·rw[a2 h,a2 (show ¬ ((y.fN:Nat):Int)=((q:Nat):Int)from fun e=>h (Int.ofNat.inj e))];rfl
theorem az1{s:dg}{i:Nat}(hi:bT p (i:Nat)=s.aK)(av:1≤s.aK)(x:Int):∀ R:List (List Nat),((qN C u.g (R.flatMap (CS t u s x)) q:Nat):Int)=lz p (C:Nat) q (k7 t u s i R):=by
 intro R
 induction R with
 | nil=>rfl
 | cons r R au =>
  rw[C9,ae2,Kc,au,CS,az0 u C ay p q hi av]
  unfold k7
  rw[C9,Wg,p4]
theorem azZ:∀(l:List dg) (o:List Int) (i:Nat),oJ l=o.length→(∀ s∈l,s.cls=7→1≤s.aK)→(∀ k,bT p ((i+k:Nat):Int)=((wx l)[k]?).getD 1)→((qN C u.g (lA t u l o) q:Nat):Int)=lz p (C:Nat) q (vg t u l i):=by
 intro l
 induction l with
 | nil=>intro o i _ _ _;simp[lA,qN,vg,lz]
 | cons s l au =>
  intro o i aC J hi
  rw[axU]at aC
  by_cases af:s.cls=7
  ·rw[a6 af]at aC
   cases o with
   | nil=>simp at aC
   | cons x o =>
    rw[Wj t u af,vg,a6 af,ae2,Wg,Kc]
    rw[Nt,a6 af]at hi
    have bo:=hi 0
    simp only[s0,lG,na]at bo
    rw[az1 t u C ay p q bo (J s (by simp) af),au o (i+1) (by simp at aC;omega) (fun s' h=>J s' (by simp[h])) (fun k=>by
     have:=hi (k+1)
     rw[show i+(k+1)=i+1+k by omega,pA]at this
     exact this)]
  ·rw[a2 af]at aC
   rw[Wi t u af,vg,a2 af]
   rw[Nt,a2 af]at hi
   exact au o i aC (fun s' h=>J s' (by simp[h])) hi
end
theorem az2{t:bR}{u:fZ}(hu:m4 u){l:List dg}(J:∀ s∈l,iM t s){o:List Int}(aC:oJ l=o.length){C:Nat}(aI:vL (b2 t u l).1 (C:Nat)=false)(q:Nat):qN C u.g (lA t u l o) q≤63:=by
 have an:=azZ t u C hu.g.1 (b2 t u l).1 q l o 0 aC (fun s h af=>(Vq (J s h) af).1) (fun k=>by rw[Vb];unfold bT;rw[nD,ld])
 rw[show vg t u l 0=(b2 t u l).1.dr by rw[Vb]]at an
 unfold vL at aI
 rw[Pe]at aI
 by_cases U:∃ v∈(b2 t u l).1.dr,v.port=((q:Nat):Int)
 ·obtain⟨v,az,aoG⟩:=U
  have:=aI v az
  rw[aoG,Wf,ho]at this
  omega
 ·have:lz (b2 t u l).1 (C:Nat) q (b2 t u l).1.dr=0:=by
   rw[← Wf,List.filter_eq_nil_iff.2 (fun v az=>by simpa using fun e=>U ⟨v,az,e⟩)];rfl
  omega
theorem Vc{t:bR}{u:fZ}{l:List dg}(av:jt (b2 t u l).1){o:List Int}(aC:tO (b2 t u l).1 o):oJ l=o.length∧∀ x∈o,0≤x∧x<240:=by
 refine⟨by rw[aC.len,Vb];exact(Vp l).symm,fun x U=>?_⟩
 obtain⟨i,hi,rfl⟩:=Gc U
 have ad:=aC.ok i _ (fC hi)
 have ag:=(oF _ av (s:=(i:Nat)) (by have:=aC.len;omega)).2
 omega
section
variable(t:bR)(u:fZ)(h:g0 t=true)(hu:m4 u)(l:List dg)(ao:l.length≤12)(J:∀ s∈l,iM t s)
variable(aw:∀(i j:Nat) (a b:dg),l[i]? = some a→l[j]? = some b→i<j→a.id≠b.id)(bl:kS (b2 t u l).1 (b2 t u l).2=0)
include h hu ao J aw bl
theorem WG(c1 c2 c:Bool)(co:Option Bool)(o:List Int)(aC:tO (b2 t u l).1 o)(pO:co=none→o=[])(dx:nN (b2 t u l).1 o 0 o=false) :
  ∃ v,a0 Tryz.prog cX 12 [fY c1 c2 t,sO u,.aP c 10 (l.map ek),jG co o]=some v∧∃ gs,v=.ch [.aP true 2 (gs.map fun es=>gW false es ((ga (b2 t u l).1.aK:Nat)*u.g)),I 0]∧gs.length=2*t.cd.length∧EV (ga (b2 t u l).1.aK) u.g (qB (ga (b2 t u l).1.aK) (2*t.cd.length) u.g (lA t u l o)) gs:=by
 have bB:=AJ t u h hu c1 c2 c l ao J aw
 rw[wq,a6 bl]at bB
 obtain⟨jy,jz,jA⟩:=mw h
 obtain⟨av,_⟩:=yi t u h hu l ao J bl
 have aO:=up (JP _ av co o aC pO)
 rw[dx]at aO
 have ed:=up (adI false false _ av)
 have gb:=up (afs c1 c2 c co t u l o)
 obtain⟨qn,mi⟩:=Vc av aC
 have fy:1≤ga (b2 t u l).1.aK∧ga (b2 t u l).1.aK≤960:=⟨(KE (fun x U=>(av.aK x U).1) av.nd).1,av.nd⟩
 obtain⟨W,hQ⟩:∃ W,W=lA t u l o:=⟨_,rfl⟩
 have BP:∀ w∈W,_:=fun w hw=>(Wk h hu J mi (fun x U=>(av.aK x U).1) av.nd (hQ ▸ hw)).1
 rw[← hQ]
 generalize (b2 t u l).1=p at *
 have cI:IntKind.i64.wrap (2*((t.cd.length:Nat):Int))=((2*t.cd.length:Nat):Int):=by rw[wrap_i64 (by omega) (by omega)];omega
 obtain⟨L,eL⟩:∃ L,L=2*t.cd.length:=⟨_,rfl⟩
 rw[← eL]at cI BP ⊢
 have p0:24*L≤eQ:=by rw[Aq];omega
 have Jl:L≤9223372036854775807:=by omega
 generalize ga p.aK=C at *
 obtain⟨aR,tA⟩:∃ aR,3000000<aR:=⟨_,Nat.lt_succ_self _⟩
 obtain⟨bn,sn⟩:∃ bn:Nat,bn=bn:=⟨0,rfl⟩
 refine qX aR (bn+5) aa1 (bH rfl) ?_
 (repeat' first|simp only[Ep,go_sem,bB,aO,ed,cI,awi,p0,Jl,bJ]|with_reducible first|refine aZ fun _=>?_|refine a1 ?_|fail)
 with_reducible refine axB (.row 2 [.t (g1 false false p)] 1) C L fy (by omega) (.t (.aP c 10 (l.map ek))) (.t (jG co o)) (.t (.ip (dO c1 c2 t))) (.t (.ip [I u.g,I u.aP,I u.fW,I u.gG])) (.t gN) (.t (I 0)) _ aR _ (by omega) _ _ _ (by omega) ?_ ?_
 ·simp only[go_sem]
 ·rintro e mk g8 ⟨s2,a8,cY,bC,dG,cM,n6,lr⟩
  have HQ:=(FX C L).l
  have QD:∀(x:a9) (Y:aj),((sR C L).map jw++x::Y)[L]? = some x:=fun x Y=>by rw[g5 (by simp[HQ])];simp[HQ]
  have gO:∀(x z:a9) (Y:aj),((sR C L).map jw++x::Y).set L z=(sR C L).map jw++z::Y:=fun x z Y=>by rw[AM _ _ (by simp[HQ])];simp[HQ]
  have DX:∀ f a b,(ah.fn f a b).cells=[.fn f a b]:=fun _ _ _=>rfl
  have aos:fX [ah.fn (.func 30) [] [.ref 3 1 0 0,.ref 1 1 0 0]]=true:=rfl
  have an9:∀ f a b,pack false [ah.fn f a b]=.fn f a b:=fun _ _ _=>rfl
  simp only[Ep,go_sem,s2,a8,cY,bC,dG,cM,n6,lr,gb,HQ,QD,gO,DX,aos,an9]
  rw[show L+1+1+1+1+1=4+L+1 by omega]
  have tn:=fun i=>OK (g:=u.g) (W.take i) _ (FX C L)
  have key:∀ E:aM,(a9.row 2 [ah.t (g1 false false p)] 1::a9.row 1 [ah.t (I (C:Nat))] 1::vr C L mk::a9.row 1 [ah.ms 2 L 0 L 1 true] 1::((sR C L).map jw++[h2]++[pW E false]):aj)=fK (.row 2 [.t (g1 false false p)] 1) C L mk (qB C L u.g (W.take 0)) [h2,pW E false]:=fun E=>by simp[qB]
  rw[key]
  with_reducible refine @afr (fun i=>fK (.row 2 [.t (g1 false false p)] 1) C L mk (qB C L u.g (W.take i)) [h2,pW _ false]) (4+L+2) ?_ (bn+4) aR (4+L+1) t u W ?_ ?_ ?_ c co h hu l ao J o mi qn pO c1 c2 hQ (by omega) _ ?_
  ·intro s
   simp only[fK,jc,gT,bJ,(tn s).l,qB,lF]
   omega
  ·intro i w X Q hw bI
   have xx:=fun cw=>bI cw
   simp only[atO hw,CT]at xx
   have:=afY (.row 2 [.t (g1 false false p)] 1) C L mk g8 fy u.g hu.g u.aP u.fW u.gG w _ (BP w (gp hw)) _ ?_ (qB C L u.g (W.take i)) (tn i) (bn+2) aR (by omega) X Q xx
   rw[show L+1+1+1+1+1=4+L+1 by omega]at this
   exact this
   refine⟨?_,?_,?_⟩<;>simp only[go_sem,bC,n6]
  ·intro s aY q aE
   exact amt _ 1 C L mk (tn s) _ u.g u.aP u.fW u.gG (by refine⟨?_,?_,?_⟩<;>simp only[go_sem,bC,n6]) aY q aE
  ·omega
  ·intro m jK
   have amw:W.take m=W:=l8 (List.drop_eq_nil_iff.1 jK)
   simp only[amw]
   have QT:=OK (g:=u.g) W _ (FX C L)
   change jX C L (qB C L u.g W)at QT
   generalize qB C L u.g W=pz at *
   have nh:=QT.l
   have QD:∀(x:a9) (Y:aj),(pz.map jw++x::Y)[L]? = some x:=fun x Y=>by rw[g5 (by simp[nh])];simp[nh]
   have G6:∀(x y:a9) (Y:aj),(pz.map jw++x::y::Y)[L+1]? = some y:=fun x y Y=>by rw[g5 (by simp[nh])];simp[nh]
   have N5:∀(x y z:a9) (Y:aj),(pz.map jw++x::y::Y).set (L+1) z=pz.map jw++x::z::Y:=fun x y z Y=>by rw[AM _ _ (by simp[nh])];simp[nh]
   have cB:4+L+1=L+1+1+1+1+1:=by omega
   have Ld:(pz.map jw).length=L:=by simp[nh]
   have hy:∀ e z,iq (L+1+1+1+1+1) e (.row 2 [.t (g1 false false p)] 1::.row 1 [.t (I (C:Nat))] 1::vr C L mk::.row 1 [.ms 2 L 0 L 1 true] 1::(pz.map jw++[h2,z]))=some (kV (.row 2 [.t (g1 false false p)] 1::.row 1 [.t (I (C:Nat))] 1::vr C L mk::.row 1 [.ms 2 L 0 L 1 true] 1::(pz.map jw++[h2,z])) (bV (L+1+1+1+1+1)) e,fK (.row 2 [.t (g1 false false p)] 1) C L mk pz [h2]):=fun e z=>by
    unfold iq
    rw[a2 (by simp[nh])]
    have k2:∀ A:aj,List.take (L+1+1+1+1+1) (.row 2 [.t (g1 false false p)] 1::.row 1 [.t (I (C:Nat))] 1::vr C L mk::.row 1 [.ms 2 L 0 L 1 true] 1::(pz.map jw++h2::A))=fK (.row 2 [.t (g1 false false p)] 1) C L mk pz [h2]:=fun A=>by
     rw[qV,qV,qV,qV,y3,Ld,l8 (by omega),show L+1-L=1 by omega];rfl
    rw[k2,Ch (QS _ 1 C L mk pz _ (by omega))]
   have Ow:∀ aY,dV aY (bV (L+1+1+1+1+1)) (.ref 3 1 0 0)=some (.ref 3 1 0 0):=fun aY=>by simp[dV,jk,cL,bV]
   have axr:32*L≤eQ:=by rw[Aq];omega
   have axs:L≤9223372036854775807:=by omega
   simp only[Ep,go_sem,s2,a8,cY,bC,dG,cM,n6,lr,nh,QD,G6,N5,cB,hy,Ow,awk,axr,axs]
   have asF:(a9.row 2 [ah.t (g1 false false p)] 1::a9.row 1 [ah.t (I (C:Nat))] 1::vr C L mk::a9.row 1 [ah.ms 2 L 0 L 1 true] 1::(pz.map jw++[h2]++[a9.row 2 (List.replicate L (ah.t rQ)) 0]):aj)=fK (.row 2 [.t (g1 false false p)] 1) C L mk pz [h2,rB (C*u.g) L [] 0]:=by simp only[fK,fU];rfl
   rw[asF]
   have amj:L≤48:=by omega
   have o2:1000<aR:=by omega
   with_reducible refine @ajv (g1 false false p) C L mk g8 fy amj u.g hu.g u.aP u.fW u.gG pz QT (bn+4) aR o2 _ _ ?_ ?_
   ·simp only[go_sem,bC,lr,Ow]
   ·rintro e gs aG Bt bN mS QF
    have jl:gU (fK (.row 2 [.t (g1 false false p)] 1) C L mk pz [h2,rB (C*u.g) L gs aG]) 2 (.ms (L+1+1+1+1+1) L 0 L 2 true)=some ((gs.map fun es=>gW false es ((C:Nat)*u.g)).map .t):=by
     have Zv:(fK (.row 2 [.t (g1 false false p)] 1) C L mk pz [h2,rB (C*u.g) L gs aG])[L+1+1+1+1+1]? = some (.row 2 ((gs.map fun es=>gW false es ((C:Nat)*u.g)).map .t) aG):=by
      rw[fK,show L+1+1+1+1+1=(L+1)+1+1+1+1 by omega,pA,pA,pA,pA,G6,rB,Bt,nC,Gd,oj]
     rw[GO (by rw[Zv];exact⟨rfl,by simp[Bt],bN⟩),Zv];rfl
    simp only[Ep,go_sem,QF,Bg,jl]
    all_goals exact⟨_,rfl,gs,rfl,Bt,mS⟩
end
theorem apL:eS Tryz.prog cX 14 115 0 (hc Tryz.prog 14 0).1=abb:=by kernel_rfl
theorem apM:eS Tryz.prog cX 14 115 0 (hc Tryz.prog 14 0).2=S3:=by kernel_rfl
noncomputable abbrev Na(E:aM)(b:Bool):a9:=.loop 14 (rD 115 (eR (some [6,9,10,11,19]) E)) [89] (hc Tryz.prog 14 0).1 (hc Tryz.prog 14 0).2 b none
noncomputable def ss(p:b7)(C:Nat)(E:aM)(b:Bool):aj:=[.row 1 [.t (B false)] 0,.row 1 [.t (I 0)] 0,.row 2 [.t (g1 false false p)] 1,.row 1 [.t (I (C:Nat))] 1,Na E b]
def N0(C:Nat)(g:Int)(gs:List (List ib))(w:hn):Prop:=∃ es,gs[w.fN]? = some es∧∀ i,i<rz C g w→∀ s,0≤s→s<w.dA→sF es ((w.bQ+(i:Nat)*w.e0+s) % ((C:Nat)*g))=128
section
variable(p:b7)(C L:Nat)(fy:1≤C∧C≤960)(g:Int)(ay:1≤g∧g≤10000)(c1 c2 dh:Int)(lf:Bool)(gs:List (List ib))(eT:gs.length=L)(mS:∀ es∈gs,DM es ((C:Nat)*g))(w:hn)(hw:JG C L g w (rz C g w))(x0:N0 C g gs w)
include fy ay eT mS hw x0
theorem anZ(E:aM)(X:aj)(bn aR:Nat)(aw:2000<aR)(fT:cW→aM→aj→Prop)(e:aM)
  (he:e 6=.t (.ip [I g,I c1,I c2,I dh])∧e 9=.t (.ip [.aP lf 2 (gs.map fun es=>gW false es ((C:Nat)*g))])∧e 10=.ref 0 1 0 0∧e 11=.ref 1 1 0 0∧e 19=.ref 3 1 0 0∧e 22=.ref (5+X.length) 1 0 0∧e 23=.t (I w.bQ))
  (bk:∀ e,fT (.exit 6) e (ss p C E true++X++[.row 4 [.t (qP w)] 1])) :
  gP (5+X.length+1) (some [6,9,10,11,19,22,23]) (c6 Tryz.prog cX (a0 Tryz.prog cX) (inl Tryz.prog cX (a0 Tryz.prog cX) aR bn) aR 14 S2) fT aR e (ss p C E true++X++[.row 4 [.t (qP w)] 1]):=by
 obtain⟨fN,⟨f0,f1⟩,⟨eh,cx⟩,e0,qy,UD⟩:=hw
 obtain⟨es,iB,x0⟩:=x0
 have tw:=mS es (gp iB)
 have j2:((C:Nat):Int)*g≤960*10000:=uo (by omega) ay.2 (by omega) (by omega)
 have Zb:0≤((C:Nat):Int)*g:=s5 (by omega) (by omega)
 have cI:IntKind.i64.wrap (((C:Nat):Int)*g)=((C:Nat):Int)*g:=wrap_i64 (by omega) (by omega)
 have dZ:IntKind.i64.wrap (w.bQ+((C:Nat):Int)*g)=w.bQ+((C:Nat):Int)*g:=wrap_i64 (by omega) (by omega)
 have bx:((gs.map fun es=>gW false es ((C:Nat)*g)))[w.fN]? = some (gW false es ((C:Nat)*g)):=by rw[eE,iB];rfl
 have iG:w.fN<gs.length:=by omega
 obtain⟨U,o7⟩:∃ U:aj,U=ss p C E true++X:=⟨_,rfl⟩
 have ao:U.length=5+X.length:=by rw[o7];simp[ss];omega
 have aJ:∀ Y,(U++Y)[3]? = some (a9.row 1 [.t (I (C:Nat))] 1):=fun Y=>by rw[o7];rfl
 rw[← o7]at bk ⊢
 have zt:∀(x:a9),(U++[x])[5+X.length]? = some x:=fun x=>by rw[← ao];exact mM
 generalize 5+X.length=vu at *
 generalize dD:rz C g w=K at *
 refine hA (List.replicate K ()) (fun _=>B true) (St:=fun i e ai=>(e 6=.t (.ip [I g,I c1,I c2,I dh])∧e 9=.t (.ip [.aP lf 2 (gs.map fun es=>gW false es ((C:Nat)*g))])∧e 10=.ref 0 1 0 0∧e 11=.ref 1 1 0 0∧e 19=.ref 3 1 0 0∧e 22=.ref vu 1 0 0∧e 23=.t (I (w.bQ+(i:Nat)*w.e0)))∧ai=U++[.row 4 [.t (qP w)] 1])
  (Ex:=fun x e ai=>x=.exit 6∧ai=U++[.row 4 [.t (qP w)] 1]) (by simp;omega) ?_ ?_ (by simp;omega) ?_ ?_
 ·rintro i x e ai Y gn hm hi v7 _ aB LM ⟨⟨bt,cM,cV,di,m2,rL,kt⟩,rfl⟩ bW fl
  rw[ic]at aB hi
  have anu:0≤((i:Nat):Int)*w.e0:=s5 (by omega) (by omega)
  have RA:((i+1:Nat):Int)*w.e0=((i:Nat):Int)*w.e0+w.e0:=by push_cast;rw[za,zb]
  have Ls:((i+1:Nat):Int)*w.e0≤(K:Nat)*w.e0:=OU (by omega) (by omega)
  rw[RA,qy]at Ls
  have a3:decide (w.bQ+((i:Nat):Int)*w.e0<w.bQ+((C:Nat):Int)*g)=true:=bY (by omega)
  have hE:IntKind.i64.wrap (w.bQ+((i:Nat):Int)*w.e0+w.e0)=w.bQ+((i+1:Nat):Int)*w.e0:=by rw[wrap_i64 (by omega) (by omega)];omega
  have ya:=ax2 false es _ tw (w.bQ+((i:Nat):Int)*w.e0) w.dA (by omega) eh (x0 i hi)
  generalize w.bQ+((i:Nat):Int)*w.e0=f at *
  generalize (gs.map fun es=>gW false es ((C:Nat)*g))=G at *
  obtain⟨Jd,GW,IW,Jc⟩:=w
  simp only at *
  (repeat' first|simp only[aba,Ma,go_sem,bt,cM,cV,di,m2,rL,kt,aJ,zt,cI,dZ,a3,bx,iG,ya,ao,hE,bP]|with_reducible first|refine aZ fun _=>?_|refine a1 ?_|fail)
  all_goals(refine bW _ _ ⟨?_,rfl⟩;simp only[go_sem,bt,cM,cV,di,m2,rL,hE])
 ·rintro e ai Y gn aB ⟨⟨bt,cM,cV,di,m2,rL,kt⟩,rfl⟩ fl
  rw[ic]at kt
  have a3:decide (w.bQ+((K:Nat):Int)*w.e0<w.bQ+((C:Nat):Int)*g)=false:=bA (by omega)
  generalize w.bQ+((K:Nat):Int)*w.e0=f at *
  obtain⟨Jd,GW,IW,Jc⟩:=w
  simp only at *
  simp only[aba,Ma,go_sem,bt,cM,cV,di,m2,rL,kt,aJ,zt,cI,dZ,a3]
  all_goals(refine fl _ _ _ ⟨rfl,rfl⟩)
 ·refine⟨?_,rfl⟩
  obtain⟨cJ,cU,dU,gA,lI,zd,De⟩:=he
  exact⟨cJ,cU,dU,gA,lI,zd,by rw[De];simp⟩
 ·rintro x e ai ⟨rfl,rfl⟩
  exact bk e
end
theorem apK:lL Tryz.prog cX 14=some ⟨115,Ii,[(10,some (false,1)),(11,some (false,1))]⟩:=by kernel_rfl
theorem afV(p:b7)(C L:Nat)(fy:1≤C∧C≤960)(g:Int)(ay:1≤g∧g≤10000)(c1 c2 dh:Int)(lf:Bool)(gs:List (List ib))(eT:gs.length=L)(mS:∀ es∈gs,DM es ((C:Nat)*g))(w:hn)(hw:JG C L g w (rz C g w))(x0:N0 C g gs w)
  (E:aM) (dm:E 6=.t (.ip [I g,I c1,I c2,I dh])∧E 9=.t (.ip [.aP lf 2 (gs.map fun es=>gW false es ((C:Nat)*g))])∧E 10=.ref 0 1 0 0∧E 11=.ref 1 1 0 0∧E 19=.ref 3 1 0 0) (bn aR:Nat) (aw:2000<aR) (X:aj) (Q:ah→aj→Prop) (bI:∀ cw,Q (.t (B true)) (ss p C E false++X++cw)) :
  ej (inl Tryz.prog cX (a0 Tryz.prog cX) aR (bn+1) (.bF 4) [.t (qP w)] (ss p C E false++X)) Q:=by
 obtain⟨hW,mc,mb,KH,KK⟩:=dm
 have hf:=fun fT e=>anZ p C L fy g ay c1 c2 dh lf gs eT mS w hw x0 E X bn aR aw fT e
 rw[show 5+X.length=X.length+1+1+1+1+1 by omega]at hf
 simp only[ss,dS,ea]at hf bI ⊢
 generalize (gs.map fun es=>gW false es ((C:Nat)*g))=G at *
 obtain⟨Jd,GW,IW,Jc⟩:=w
 simp only at *
 refine Cm (E:=eR (some [6,9,10,11,19]) E) rfl rfl rfl apL apM ?_
 simp only[abb,S3,go_sem,hW,mc,mb,KH,KK,mM,nu]
 with_reducible refine hf _ _ ?_ ?_
 ·simp only[go_sem,hW,mc,mb,KH,KK]
 ·intro e
  simp only[S3,go_sem]
  all_goals exact bI _
theorem an2(p:b7)(C:Nat)(E:aM)(g c1 c2 dh:Int)(G:List T)(lf:Bool)(dm:E 6=.t (.ip [I g,I c1,I c2,I dh])∧E 9=.t (.ip [.aP lf 2 G])∧E 10=.ref 0 1 0 0∧E 11=.ref 1 1 0 0∧E 19=.ref 3 1 0 0)(aY:aj)(q:Nat)(aE:5≤q):b5 (dk aY (bV q)) (ss p C E false)=some (ss p C E false):=by
 obtain⟨hW,mc,mb,KH,KK⟩:=dm
 have hC:decide (q≤0)=false:=bA (by omega)
 have a3:decide (q≤1)=false:=bA (by omega)
 have cz:decide (q≤3)=false:=bA (by omega)
 have fD:dk aY (bV q) (Na E false)=some (Na E false):=by
  rw[xo]
  simp only[go_sem,hW,mc,mb,KH,KK,hC,a3,cz]
 simp only[ss,b5,fD]
 simp[dk,dw,cL]
section
variable(t:bR)(u:fZ)(h:g0 t=true)(hu:m4 u)(l:List dg)(ao:l.length≤12)(J:∀ s∈l,iM t s)
variable(aw:∀(i j:Nat) (a b:dg),l[i]? = some a→l[j]? = some b→i<j→a.id≠b.id)(bl:kS (b2 t u l).1 (b2 t u l).2=0)
include h hu ao J aw bl
theorem afU(c1 c2 c:Bool)(co:Option Bool)(lf:Bool)(o:List Int)(aC:tO (b2 t u l).1 o)(pO:co=none→o=[])(dx:nN (b2 t u l).1 o 0 o=false)(gs:List (List ib))(eT:gs.length=2*t.cd.length)(mS:∀ es∈gs,DM es ((ga (b2 t u l).1.aK:Nat)*u.g))(x0:∀ w∈lA t u l o,N0 (ga (b2 t u l).1.aK) u.g gs w) :
  a0 Tryz.prog cX 14 [fY c1 c2 t,sO u,.aP c 10 (l.map ek),jG co o,.aP lf 2 (gs.map fun es=>gW false es ((ga (b2 t u l).1.aK:Nat)*u.g))]=some (.ch [B true,I 0]):=by
 have bB:=AJ t u h hu c1 c2 c l ao J aw
 rw[wq,a6 bl]at bB
 obtain⟨jy,jz,jA⟩:=mw h
 obtain⟨av,_⟩:=yi t u h hu l ao J bl
 have aO:=up (JP _ av co o aC pO)
 rw[dx]at aO
 have ed:=up (adI false false _ av)
 have gb:=up (afs c1 c2 c co t u l o)
 obtain⟨qn,mi⟩:=Vc av aC
 have fy:1≤ga (b2 t u l).1.aK∧ga (b2 t u l).1.aK≤960:=⟨(KE (fun x U=>(av.aK x U).1) av.nd).1,av.nd⟩
 obtain⟨W,hQ⟩:∃ W,W=lA t u l o:=⟨_,rfl⟩
 have BP:∀ w∈W,_:=fun w hw=>(Wk h hu J mi (fun x U=>(av.aK x U).1) av.nd (hQ ▸ hw)).1
 rw[← hQ]at x0
 generalize (b2 t u l).1=p at *
 generalize ga p.aK=C at *
 have cI:IntKind.i64.wrap (2*((t.cd.length:Nat):Int))=((gs.length:Nat):Int):=by rw[wrap_i64 (by omega) (by omega)];omega
 obtain⟨gV,cg⟩:=hu.g
 have j2:((C:Nat):Int)*u.g≤960*10000:=uo (by omega) cg (by omega) (by omega)
 have Zb:0≤((C:Nat):Int)*u.g:=s5 (by omega) (by omega)
 have dZ:IntKind.i64.wrap (((C:Nat):Int)*u.g)=((C:Nat):Int)*u.g:=wrap_i64 (by omega) (by omega)
 obtain⟨aR,tA⟩:∃ aR,3000<aR:=⟨_,Nat.lt_succ_self _⟩
 obtain⟨bn,sn⟩:∃ bn:Nat,bn=bn:=⟨0,rfl⟩
 refine cK aR (bn+5) apK (bH rfl) ?_
 (repeat' first|simp only[Ii,go_sem,bB,aO,ed,bJ]|with_reducible first|refine aZ fun _=>?_|refine a1 ?_|fail)
 refine hA gs (fun es=>gW false es ((C:Nat)*u.g)) (St:=fun i e ai=>(e 2=.t (.aP c 10 (l.map ek))∧e 3=.t (jG co o)∧e 5=.t (.ip (dO c1 c2 t))∧e 6=.t (.ip [I u.g,I u.aP,I u.fW,I u.gG])∧e 9=.t (.ip [.aP lf 2 (gs.map fun es=>gW false es ((C:Nat)*u.g))])∧e 10=.ref 0 1 0 0∧e 11=.ref 1 1 0 0∧e 12=.ref 2 1 0 0∧e 43=.t (.aP lf 2 (gs.map fun es=>gW false es ((C:Nat)*u.g)))∧e 44=.t (I (gs.length:Nat))∧e 45=.t (I (i:Nat)))∧ai=[.row 1 [.t (B false)] 0,.row 1 [.t (I 0)] 0,.row 2 [.t (g1 false false p)] 1])
  (Ex:=fun x e ai=>x=.exit 0∧(e 2=.t (.aP c 10 (l.map ek))∧e 3=.t (jG co o)∧e 5=.t (.ip (dO c1 c2 t))∧e 6=.t (.ip [I u.g,I u.aP,I u.fW,I u.gG])∧e 9=.t (.ip [.aP lf 2 (gs.map fun es=>gW false es ((C:Nat)*u.g))])∧e 10=.ref 0 1 0 0∧e 11=.ref 1 1 0 0∧e 12=.ref 2 1 0 0)∧ai=[.row 1 [.t (B false)] 0,.row 1 [.t (I 0)] 0,.row 2 [.t (g1 false false p)] 1]) (by omega) ?_ ?_ (by omega) ?_ ?_
 ·rintro i es e ai Y R hm hi U bx aB hw ⟨⟨s2,a8,bC,bt,cM,cV,di,hN,NP,oI,pn⟩,rfl⟩ bW bk
  have Ab:=up (YD false es _ (mS es hm))
  (repeat' first|simp only[aa7,L8,go_sem,s2,a8,bC,bt,cM,cV,di,hN,NP,oI,pn,aB,hw,bx,hi,Ab,bJ]|with_reducible first|refine aZ fun _=>?_|refine a1 ?_|fail)
  all_goals(refine bW _ _ ⟨?_,rfl⟩;simp only[go_sem,s2,a8,bC,bt,cM,cV,di,hN,NP,oI,hw])
 ·rintro e ai Y R aB ⟨⟨s2,a8,bC,bt,cM,cV,di,hN,NP,oI,pn⟩,rfl⟩ bk
  simp only[aa7,L8,go_sem,s2,a8,bC,bt,cM,cV,di,hN,NP,oI,pn,aB]
  all_goals(refine bk _ _ _ ⟨rfl,?_,rfl⟩;simp only[go_sem,s2,a8,bC,bt,cM,cV,di,hN])
 ·refine⟨?_,rfl⟩
  simp only[go_sem,bJ]
 ·rintro x e ai ⟨rfl,⟨s2,a8,bC,bt,cM,cV,di,hN⟩,rfl⟩
  (repeat' first|simp only[Ii,go_sem,s2,a8,bC,bt,cM,cV,di,hN,ed,cI,bJ]|with_reducible first|refine aZ fun _=>?_|refine a1 ?_|fail)
  refine hA gs (fun es=>gW false es ((C:Nat)*u.g)) (St:=fun i e ai=>(e 2=.t (.aP c 10 (l.map ek))∧e 3=.t (jG co o)∧e 5=.t (.ip (dO c1 c2 t))∧e 6=.t (.ip [I u.g,I u.aP,I u.fW,I u.gG])∧e 9=.t (.ip [.aP lf 2 (gs.map fun es=>gW false es ((C:Nat)*u.g))])∧e 10=.ref 0 1 0 0∧e 11=.ref 1 1 0 0∧e 19=.ref 3 1 0 0∧e 70=.t (.aP lf 2 (gs.map fun es=>gW false es ((C:Nat)*u.g)))∧e 71=.t (I (gs.length:Nat))∧e 72=.t (I (i:Nat)))∧ai=[.row 1 [.t (B false)] 0,.row 1 [.t (I 0)] 0,.row 2 [.t (g1 false false p)] 1,.row 1 [.t (I (C:Nat))] 1])
   (Ex:=fun x e ai=>x=.exit 2∧(e 2=.t (.aP c 10 (l.map ek))∧e 3=.t (jG co o)∧e 5=.t (.ip (dO c1 c2 t))∧e 6=.t (.ip [I u.g,I u.aP,I u.fW,I u.gG])∧e 9=.t (.ip [.aP lf 2 (gs.map fun es=>gW false es ((C:Nat)*u.g))])∧e 10=.ref 0 1 0 0∧e 11=.ref 1 1 0 0∧e 19=.ref 3 1 0 0)∧ai=[.row 1 [.t (B false)] 0,.row 1 [.t (I 0)] 0,.row 2 [.t (g1 false false p)] 1,.row 1 [.t (I (C:Nat))] 1]) (by omega) ?_ ?_ (by omega) ?_ ?_
  ·rintro i es e ai Y R hm hi U bx aB hw ⟨⟨s2,a8,bC,bt,cM,cV,di,m2,NR,NS,VN⟩,rfl⟩ bW bk
   (repeat' first|simp only[aa9,L9,go_sem,s2,a8,bC,bt,cM,cV,di,m2,NR,NS,VN,aB,hw,bx,hi,dZ,bJ]|with_reducible first|refine aZ fun _=>?_|refine a1 ?_|fail)
   all_goals(refine bW _ _ ⟨?_,rfl⟩;simp only[go_sem,s2,a8,bC,bt,cM,cV,di,m2,NR,NS,hw])
  ·rintro e ai Y R aB ⟨⟨s2,a8,bC,bt,cM,cV,di,m2,NR,NS,VN⟩,rfl⟩ bk
   simp only[aa9,L9,go_sem,s2,a8,bC,bt,cM,cV,di,m2,NR,NS,VN,aB]
   all_goals(refine bk _ _ _ ⟨rfl,?_,rfl⟩;simp only[go_sem,s2,a8,bC,bt,cM,cV,di,m2])
  ·refine⟨?_,rfl⟩
   simp only[go_sem,s2,a8,bC,bt,cM,cV,di,bJ]
  ·rintro x e ai ⟨rfl,⟨s2,a8,bC,bt,cM,cV,di,m2⟩,rfl⟩
   simp only[Ii,go_sem,s2,a8,bC,bt,cM,cV,di,m2,gb]
   have key:∀ E:aM,([.row 1 [.t (B false)] 0,.row 1 [.t (I 0)] 0,.row 2 [.t (g1 false false p)] 1,.row 1 [.t (I (C:Nat))] 1,Na E false]:aj)=ss p C E false:=fun E=>rfl
   rw[key]
   with_reducible refine @afr (fun i=>ss p C _ false) 5 (fun s=>rfl) (bn+4) aR 4 t u W ?_ ?_ ?_ c co h hu l ao J o mi qn pO c1 c2 hQ (by omega) _ ?_
   ·intro i w X Q hw bI
    have hm:=gp hw
    exact afV p C (2*t.cd.length) fy u.g hu.g u.aP u.fW u.gG lf gs eT mS w (BP w hm) (x0 w hm) _ (by refine⟨?_,?_,?_,?_,?_⟩<;>simp only[go_sem,bt,cM,cV,di,m2]) (bn+3) aR (by omega) X Q bI
   ·intro s aY q aE
    exact an2 p C _ u.g u.aP u.fW u.gG _ lf (by refine⟨?_,?_,?_,?_,?_⟩<;>simp only[go_sem,bt,cM,cV,di,m2];rfl) aY q aE
   ·omega
   ·intro m jK
    simp only[ss]
    simp only[Ii,go_sem,s2,a8,bC,bt,cM,cV,di,m2]
end
theorem atB{x g:Int}(C:Nat)(U:0≤x)(ay:0<g):x % ((C:Nat)*g) / g=(x / g) % (C:Nat):=by
 obtain⟨n,rfl⟩:∃ n:Nat,x=(n:Nat):=⟨x.toNat,by omega⟩
 obtain⟨m,rfl⟩:∃ m:Nat,g=(m:Nat):=⟨g.toNat,by omega⟩
 rw[← Int.natCast_mul,← w5,← Pk,← Pk,← w5,Nat.mod_mul_left_div_self]
section
variable{t:bR}{u:fZ}(h:g0 t=true)(hu:m4 u){l:List dg}(ao:l.length≤12)(J:∀ s∈l,iM t s)(bl:kS (b2 t u l).1 (b2 t u l).2=0){o:List Int}(aC:tO (b2 t u l).1 o)
 {gs:List (List ib)} (eT:gs.length=2*t.cd.length) (mS:EV (ga (b2 t u l).1.aK) u.g (qB (ga (b2 t u l).1.aK) (2*t.cd.length) u.g (lA t u l o)) gs)
include h hu ao J bl aC eT mS
theorem as5:(∀ es∈gs,DM es ((ga (b2 t u l).1.aK:Nat)*u.g))∧∀ w∈lA t u l o,N0 (ga (b2 t u l).1.aK) u.g gs w:=by
 obtain⟨av,aI,_,_⟩:=yi t u h hu l ao J bl
 obtain⟨qn,mi⟩:=Vc av aC
 have fy:1≤ga (b2 t u l).1.aK∧ga (b2 t u l).1.aK≤960:=⟨(KE (fun x U=>(av.aK x U).1) av.nd).1,av.nd⟩
 have al5:=fun q=>az2 hu J qn aI q
 have BP:=fun w hw=>@Wk t u h hu l J o mi (fun x U=>(av.aK x U).1) av.nd w hw
 generalize ga (b2 t u l).1.aK=C at *
 generalize lA t u l o=W at *
 obtain⟨gV,cg⟩:=hu.g
 have j2:((C:Nat):Int)*u.g≤960*10000:=uo (by omega) cg (by omega) (by omega)
 have zx:0<((C:Nat):Int)*u.g:=Int.mul_pos (by omega) (by omega)
 have Y3:∀ w∈W,w.fN<2*t.cd.length:=fun w hw=>(BP w hw).1.fN
 refine⟨fun es iB=>?_,fun w hw=>?_⟩
 ·obtain⟨q,aE⟩:=Ka iB
  obtain⟨r,al,eB⟩:=mS q es aE
  have af:=ai2 fy.1 Y3 al
  have:=al5 q
  have aw:=eB.n
  refine⟨?_,by omega,fun x U=>?_,eB.s,by omega⟩
  ·have ad:=eB.s
   cases es with
   | nil=>simp only[eD]at ad;omega
   | cons a b=>simp
  ·obtain⟨a,b,c⟩:=eB.e x U
   exact⟨a,b,by omega⟩
 ·obtain⟨⟨fN,bQ,dA,e0,qy,UD⟩,⟨A,hI⟩,⟨WH,QR⟩⟩:=BP w hw
  obtain⟨es,iB⟩:∃ es,gs[w.fN]? = some es:=⟨_,fC (by omega)⟩
  obtain⟨r,al,eB⟩:=mS w.fN es iB
  refine⟨es,iB,fun i hi s bE s1=>?_⟩
  have sw:=nG (w.bQ+(i:Nat)*w.e0+s) (show((C:Nat):Int)*u.g≠0 by omega)
  have ko:=l5 (w.bQ+(i:Nat)*w.e0+s) zx
  obtain⟨b,ab,hm⟩:=eB.m _ sw ko
  rw[hm]
  have q7:=(Xs (g:=u.g) fy.1 Y3 w.fN ((w.bQ+(i:Nat)*w.e0+s) % ((C:Nat)*u.g) / u.g).toNat).2 ⟨w,hw,rfl,i,hi,(s / u.g).toNat,?_,?_⟩
  ·unfold iQ at q7
   rw[al]at q7
   simp only[ab,na]at q7
   rw[q7];rfl
  ·unfold mA
   have ad:0≤s / u.g:=uB bE (by omega)
   have ag:s / u.g<(w.dA+u.g-1) / u.g:=by
    have:(s+u.g) / u.g≤(w.dA+u.g-1) / u.g:=Pl (by omega) (by omega)
    rw[Int.add_ediv_of_dvd_right (Int.dvd_refl _),Int.ediv_self (by omega)]at this
    omega
   omega
  ·have pN:w.bQ+(i:Nat)*w.e0=u.g*(A+(i:Nat)*WH):=by rw[hI,QR,Int.mul_add,Int.mul_left_comm ((i:Nat):Int) u.g WH]
   have Ls:0≤((i:Nat):Int)*w.e0:=s5 (by omega) (by omega)
   have ad:0≤s / u.g:=uB bE (by omega)
   have aT:=atB C (show 0≤w.bQ+(i:Nat)*w.e0+s by omega) (show 0<u.g by omega)
   have aW:(w.bQ+(i:Nat)*w.e0+s) / u.g=(w.bQ+(i:Nat)*w.e0) / u.g+s / u.g:=by rw[pN,Int.add_ediv_of_dvd_left (Int.dvd_mul_right _ _)]
   have bw:0≤(w.bQ+(i:Nat)*w.e0) / u.g:=uB (by omega) (by omega)
   rw[aT,aW]
   unfold pE
   generalize (w.bQ+(i:Nat)*w.e0) / u.g=a at *
   generalize s / u.g=bS at *
   obtain⟨cb,rfl⟩:∃ n:Nat,a=(n:Nat):=⟨a.toNat,by omega⟩
   obtain⟨aBB,rfl⟩:∃ n:Nat,bS=(n:Nat):=⟨bS.toNat,by omega⟩
   rw[← Kc,← w5,ld,ld,ld]
end
theorem akG:∀(l:List Nat) (m x:Nat),(∀ n∈l,1≤n)→1≤x→1≤m→m≤960→pJ m (l++[x])≤960→pJ m l≤pJ m (l++[x]):=by
 intro l
 induction l with
 | nil =>
  intro m x _ U hm _ hle
  rw[ea]at hle ⊢
  obtain⟨a,b,_⟩:=Yh [x] m (by simpa using U) hm hle
  exact Nat.le_of_dvd a b
 | cons n l au =>
  intro m x ao U hm _ hle
  rw[dS,pJ]at hle ⊢
  rw[pJ]
  by_cases hK:960<kF m n
  ·rw[a6 hK]at hle;omega
  ·rw[a2 hK]at hle ⊢
   have ad:1≤kF m n:=Nat.mul_pos (Nat.div_pos (O3 _ hm) (F0 _ hm)) (ao n (by simp))
   rw[a2 hK]
   exact au _ x (fun y ar=>ao y (by simp[ar])) U ad (by omega) hle
theorem ajz{bO:List Int}{x:Int}(h:∀ y∈bO,1≤y)(U:1≤x)(af:ga (bO++[x])≤960):ga bO≤ga (bO++[x]):=by
 unfold ga at *
 rw[ux,List.map_singleton]at *
 exact akG _ 1 _ (fun n aw=>by
  obtain⟨y,ar,rfl⟩:=nE.1 aw
  have:=h y ar;omega) (by omega) (bP _) (by omega) af
theorem aAN{p q:b7}{c c':Int}(ad:0≤c)(ag:c≤c'){n:Nat}:∀ us:List fp,(∀ v∈us,bT q v.str=bT p v.str∧1≤bT p v.str)→lz q c n us≤lz p c' n us:=by
 intro us
 induction us with
 | nil=>intro _;simp[lz]
 | cons v us au =>
  intro h
  obtain⟨e,aT⟩:=h v (by simp)
  have:=au fun x U=>h x (by simp[U])
  unfold lz at *
  rw[gz,gz,y8,y8,e]
  have aF:c / bT p v.str≤c' / bT p v.str:=Pl (by omega) ag
  split<;>omega
theorem aAO{p:b7}{c:Int}(ad:0≤c){n:Nat}:∀ us:List fp,(∀ v∈us,1≤bT p v.str)→0≤lz p c n us:=by
 intro us
 induction us with
 | nil=>intro _;simp[lz]
 | cons v us au =>
  intro h
  have aT:=h v (by simp)
  have:=au fun x U=>h x (by simp[U])
  unfold lz at *
  rw[gz,y8]
  have aF:0≤c / bT p v.str:=uB ad (by omega)
  split<;>omega
section
variable{t:bR}{u:fZ}(h:g0 t=true)(hu:m4 u){l:List dg}{s:dg}(ao:(l++[s]).length≤12)(J:∀ x∈l++[s],iM t x)(bl:kS (b2 t u (l++[s])).1 (b2 t u (l++[s])).2=0)
include h hu ao J bl
theorem akI:kS (b2 t u l).1 (b2 t u l).2=0∧(∀ o,tO (b2 t u (l++[s])).1 o→nN (b2 t u (l++[s])).1 o 0 o=false→tO (b2 t u l).1 (o.take (b2 t u l).1.aK.length)∧nN (b2 t u l).1 (o.take (b2 t u l).1.aK.length) 0 (o.take (b2 t u l).1.aK.length)=false):=by
 obtain⟨av,aI,aB,hw⟩:=yi t u h hu (l++[s]) ao J bl
 have bK:=U9 t u h hu (l:=l) (fun x U=>J x (by simp[U]))
 rw[Va]at av aI aB hw bl ⊢
 by_cases af:s.cls=7
 ·have RV:=Vq (J s (by simp)) af
  generalize b2 t u l=Q at *
  obtain⟨q,ad3⟩:=Q
  have e:po t u (q,ad3) s=(⟨q.aK++[s.aK],q.dr++k7 t u s q.aK.length s.dv⟩,ad3 || s.dv.any (tM t u s)):=by unfold po;rw[a6 af]
  rw[e]at av aI aB hw bl ⊢
  simp only at av aI aB hw bl bK ⊢
  obtain⟨r,al⟩:∃ r,k7 t u s q.aK.length s.dv=r:=⟨_,rfl⟩
  rw[al]at av aI hw bl ⊢
  have Ed:∀ v:fp,v∈q.dr→bT ⟨q.aK++[s.aK],q.dr++r⟩ v.str=bT q v.str:=fun v az=>Vo q s.aK _ (bK.us v az).1
  have sm:=ajz (fun y ar=>(bK.aK y ar).1) RV.1 av.nd
  have amT:=av.nd
  simp only at amT sm
  have aoj:yN q q.dr=false:=(Wh q q.dr).2 fun v az=>by
   have:=(Wh _ _).1 hw v (by simp[az])
   rwa[Ed v az]at this
  have aof:vL q (ga q.aK:Nat)=false:=by
   unfold vL at aI ⊢
   rw[Pe]at aI ⊢
   intro v az
   have ad:=aI v (by simp[az])
   obtain⟨n,aw⟩:∃ n:Nat,v.port=(n:Nat):=⟨v.port.toNat,by have:=(bK.us v az).2.1.1;omega⟩
   rw[aw,Wf,ho]at ad ⊢
   rw[Wg]at ad
   have D9:∀ x∈q.dr++r,1≤bT ⟨q.aK++[s.aK],q.dr++r⟩ x.str:=fun x U=>by have:=av.use x U;omega
   have ag:=aAN (p:=⟨q.aK++[s.aK],q.dr++r⟩) (q:=q) (c:=(ga q.aK:Nat)) (c':=(ga (q.aK++[s.aK]):Nat)) (by omega) (by omega) (n:=n) q.dr fun x U=>⟨(Ed x U).symm,D9 x (by simp[U])⟩
   have aJ:=aAO (p:=⟨q.aK++[s.aK],q.dr++r⟩) (c:=(ga (q.aK++[s.aK]):Nat)) (by omega) (n:=n) r fun x U=>D9 x (by simp[U])
   omega
  rw[J7]at aB
  refine⟨?_,fun o aC dx=>?_⟩
  ·unfold kS DA
   rw[a2 (by omega),aof,aoj,aB.1];rfl
  ·have qn:=aC.len
   simp only[gT,vy]at qn
   have ck:∀(i:Nat) x,(o.take q.aK.length)[i]? = some x→i<q.aK.length∧o[i]? = some x:=fun i x U=>by
    rw[l4]at U
    split at U
    ·exact⟨by assumption,U⟩
    ·cases U
   refine⟨⟨by simp;omega,fun i x U=>?_⟩,?_⟩
   ·obtain⟨ad,ag⟩:=ck i x U
    have:=aC.ok i x ag
    rwa[Vo q s.aK _ (by omega)]at this
   ·rw[Qg]at dx ⊢
    intro m n a b BD ae ab DX
    refine dx m n a b BD (ck m a ae).2 (ck n b ab).2 ?_
    rw[GC]at DX ⊢
    obtain⟨x,y,v,w,ad,ag,aJ,bL,dC,fQ,hP⟩:=DX
    refine⟨x,y,v,w,?_,?_,aJ,bL,dC,fQ,?_⟩
    ·rw[fv (cD.1 ad).1];exact ad
    ·rw[fv (cD.1 ag).1];exact ag
    ·unfold sb rv at hP ⊢
     rw[Ed v (gp ad),Ed w (gp ag)]
     exact hP
 ·have e:po t u (b2 t u l) s=b2 t u l:=by unfold po;rw[a2 af]
  rw[e]at bl ⊢
  refine⟨bl,fun o aC dx=>?_⟩
  rw[← aC.len,s4]
  exact⟨aC,dx⟩
end
structure pM(G:List Int):Prop where
 l:G.length=12
 b:∀ v∈G,-1≤v∧v<240
structure FC(p:b7)(aH:List c3)(S:List r0):Prop where
 v:∀ k∈S,w4 p aH k.1 k.2∧pM k.2∧k.1<aH.length
 i:S.Pairwise fun a b=>a.1<b.1
theorem arA(n:Nat):∀(S:List r0) (lo:Nat),S.Pairwise (fun a b=>a.1<b.1)→(∀ k∈S,lo≤k.1∧k.1<n)→S=[]∨S.length+lo≤n:=by
 intro S
 induction S with
 | nil=>intro lo _ _;exact .inl rfl
 | cons k S au =>
  intro lo hi ab
  obtain⟨ad,ag⟩:=List.pairwise_cons.1 hi
  have:=ab k (by simp)
  rcases au (k.1+1) ag (fun q aE=>⟨ad q aE,(ab q (by simp[aE])).2⟩)with e|e
  ·subst e;right;simp;omega
  ·right;rw[jc];omega
theorem aeO{p:b7}{aH:List c3}{S:List r0}(h:FC p aH S):S.length≤aH.length:=by
 rcases arA aH.length S 0 h.i (fun k an=>⟨by omega,(h.v k an).2.2⟩)with e|e
 ·subst e;simp
 ·omega
def p5(n:Nat)(S:List r0):Nat:=(S.map fun k=>2 ^ (n-k.1)).sum
theorem afy(n:Nat)(a b:List r0):p5 n (a++b)=p5 n a+p5 n b:=by simp[p5]
theorem aBc(n:Nat):∀(S:List r0) (c:Nat),c<n→S.Pairwise (fun a b=>a.1<b.1)→(∀ k∈S,c<k.1∧k.1<n)→p5 n S<2 ^ (n-c):=by
 intro S
 induction S with
 | nil=>intro c _ _ _;exact Nat.pow_pos (by omega)
 | cons k S au =>
  intro c af hi ab
  obtain⟨ad,ag⟩:=List.pairwise_cons.1 hi
  have an:=ab k (by simp)
  have i1:=au k.1 an.2 ag (fun q aE=>⟨ad q aE,(ab q (by simp[aE])).2⟩)
  have e:p5 n (k::S)=2 ^ (n-k.1)+p5 n S:=by simp[p5]
  have aJ:2 ^ (n-k.1+1)≤2 ^ (n-c):=Nat.pow_le_pow_right (by omega) (by omega)
  rw[Nat.pow_succ]at aJ
  omega
def n2(s:Nat)(G:List Int)(l:List eK):List r0:=(l.filter fun a=>decide (a.dX = -1)).map fun a=>(a.jg.toNat,G.set s a.ec)
theorem avR(s:Nat)(G:List Int)(l:List eK)(a:eK):n2 s G (l++[a])=n2 s G l++if a.dX = -1 then[(a.jg.toNat,G.set s a.ec)]else[]:=by
 unfold n2
 rw[J0,ux]
 by_cases h:a.dX = -1<;>simp[h]
theorem alz{G:List Int}(h:pM G)(s:Nat){x:Int}(U:0≤x∧x<240):pM (G.set s x):=by
 refine⟨by simp[h.l],fun v az=>?_⟩
 rcases JV az with e|e
 ·exact h.b v e
 ·omega
section
variable(p:b7)(h:jt p)(aH:List c3)(av:E2 p aH)
include h av
theorem aeP{S:List r0}{c:Nat}{G:List Int}(cE:FC p aH (S++[(c,G)])){x:c3}(U:aH[c]? = some x)(j:Nat):FC p aH (S++n2 x.str.toNat G (x.bM.take j))∧p5 aH.length (S++n2 x.str.toNat G (x.bM.take j))<p5 aH.length (S++[(c,G)]):=by
 obtain⟨gr,hJ,af⟩:=cE.v (c,G) (by simp)
 simp only at gr hJ af
 have dY:=av.br c x U
 obtain⟨tq,iT⟩:=Dy h dY
 have hf:∀ a∈x.bM.take j,a.dX = -1→c<a.jg.toNat∧a.jg.toNat<aH.length:=fun a ae ab=>by
  rcases dY.2.2.1 a (C7 ae)with⟨_,_,cG,nr⟩|⟨_,b3,_⟩|⟨_,b3,_⟩
  ·omega
  ·omega
  ·omega
 have vU:(n2 x.str.toNat G (x.bM.take j)).Pairwise fun a b=>a.1<b.1:=by
  unfold n2
  rw[List.pairwise_map]
  have ad:(x.bM.take j).Pairwise fun a b=>a.dX = -1→b.dX = -1→a.jg<b.jg:=List.Pairwise.sublist (List.take_sublist _ _) dY.2.2.2
  rw[List.pairwise_filter]
  refine List.Pairwise.imp_of_mem ?_ ad
  intro a b ae ab amA gH Bd
  simp only[ho]at gH Bd
  have:=amA gH Bd
  have:=hf a ae gH
  have:=hf b ab Bd
  simp only;omega
 have qo:∀ k∈n2 x.str.toNat G (x.bM.take j),∃ a∈x.bM.take j,a.dX = -1∧k=(a.jg.toNat,G.set x.str.toNat a.ec):=fun k an=>by
  simp only[n2,nE,AT,ho]at an
  obtain⟨a,⟨ad,ag⟩,rfl⟩:=an
  exact⟨a,ad,ag,rfl⟩
 have RU:∀ k∈n2 x.str.toNat G (x.bM.take j),c<k.1∧k.1<aH.length:=fun k an=>by
  obtain⟨a,ad,ag,rfl⟩:=qo k an
  exact hf a ad ag
 obtain⟨i1,_,i3⟩:=F5.1 cE.i
 refine⟨⟨fun k an=>?_,F5.2 ⟨i1,vU,fun a ae b ab=>?_⟩⟩,?_⟩
 ·rcases hp.1 an with an|an
  ·exact cE.v k (by simp[an])
  ·have ab:=(RU k an).2
   obtain⟨a,ad,ag,rfl⟩:=qo k an
   have ae:=C7 ad
   have j1:=iT a ae
   refine⟨?_,alz hJ _ ⟨j1.1,by omega⟩,ab⟩
   cases gr with
   | mk _ _ eX dM bo J qf xv =>
    rw[U]at dM
    cases dM
    exact qf a ae ag
 ·have:=i3 a ae (c,G) (by simp)
  have:=RU b ab
  simp only at *;omega
 ·rw[afy,afy]
  have:=aBc aH.length _ c af vU RU
  have e:p5 aH.length [(c,G)]=2 ^ (aH.length-c):=by simp[p5]
  omega
end
theorem ayV{p:b7}{aH:List c3}{G:List Int}(h:w4 p aH 0 G)(hJ:pM G)(bo:0<aH.length):FC p aH [(0,G)]:=⟨fun k an=>by simp only[kA]at an;subst an;exact⟨h,hJ,bo⟩,J5 _ _⟩
abbrev xm:ah:=.fn (.func 59) [] [.ref 2 1 0 0]
abbrev wS(k:r0):a9:=.row 13 [.t (tY k)] 1
section
variable(c1 c2 fD:Bool)(p:b7)(h:jt p)(aH:List c3)(av:E2 p aH)
include h av
theorem aAA(kn:List (jj × Bool))(hg:kq p kn)(kN:List r0)(c:Nat)(G:List Int)(x:c3)(U:aH[c]? = some x)(cE:FC p aH (kN++[(c,G)]))(es:List ah)(aG:Nat)(bN:aG≤es.length)(aS:Ay kN es)(hlen:es.length≤3000)(St:a9)(Bn:∀ n,5≤n→hs n St)(bn aR:Nat)(aw:10000<aR)(R:cW→aM→aj→Prop)(e:aM)
  (he:e 1=.t (lX fD aH)∧e 5=pK c1 c2 p∧e 6=.ref 2 1 0 0∧e 7=xm∧e 10=.ref 5 1 0 0∧e 11=.t (I x.str)∧e 57=.t (.aP false 4 (x.bM.map hq))∧e 58=.t (I (x.bM.length:Nat))∧e 59=.t (I 0))
  (bk:∀ e kn es aG,kq p kn→aG≤es.length→Ay (kN++n2 x.str.toNat G x.bM) es→es.length≤3000→(e 1=.t (lX fD aH)∧e 5=pK c1 c2 p∧e 6=.ref 2 1 0 0∧e 7=xm)→R (.exit 4) e (gr kn (oN es.length (kN++n2 x.str.toNat G x.bM).length 1) St (py es aG) [wS (c,G)])) :
  gP 6 (some [1,5,6,7,10,11,57,58,59]) (c6 Tryz.prog pol (a0 Tryz.prog pol) (inl Tryz.prog pol (a0 Tryz.prog pol) aR (bn+2)) aR 34 Tv) R aR e (gr kn (oN es.length kN.length 1) St (py es aG) [wS (c,G)]):=by
 obtain⟨Hg,hJ,af⟩:=cE.v (c,G) (by simp)
 simp only at Hg hJ af
 have dY:=av.br c x U
 obtain⟨tq,iT⟩:=Dy h dY
 have fA:=av.cx
 have xw:=h.len
 obtain⟨s,J⟩:∃ s:Nat,x.str=(s:Nat):=⟨x.str.toNat,by have:=dY.1;omega⟩
 have aoq:s<p.aK.length:=by have:=dY.1;omega
 have R7:s<12:=by omega
 have BB:(G.map I).length=12:=by simp[hJ.l]
 have v3:=N3 G
 have k2:List.take 12 ((G.map I).map ah.t)=(G.map I).map .t:=l8 (by simp[hJ.l])
 have iU:∀ G:List Int,e6 ((G.map I).map ah.t)=some (G.map I):=fun G=>Kq _
 have eT:=hJ.l
 have aoz:∀ v:Int,List.take 12 (((G.set s v).map I).map ah.t)=((G.set s v).map I).map .t:=fun v=>l8 (by simp[hJ.l])
 have axI:s≤11:=by omega
 have qq:∀ v:Int,List.take s ((G.map I).map ah.t)++[ah.t (I v)]++List.drop (s+1) ((G.map I).map ah.t)=((G.set s v).map I).map .t:=fun v=>by
  rw[y9,y9,WN,a6 (by simp[hJ.l];omega),fU];rfl
 refine hA x.bM hq (St:=fun j e ai=>∃ kn es aG,(e 1=.t (lX fD aH)∧e 5=pK c1 c2 p∧e 6=.ref 2 1 0 0∧e 7=xm∧e 10=.ref 5 1 0 0∧e 11=.t (I x.str)∧e 57=.t (.aP false 4 (x.bM.map hq))∧e 58=.t (I (x.bM.length:Nat))∧e 59=.t (I (j:Nat)))∧kq p kn∧aG≤es.length∧Ay (kN++n2 x.str.toNat G (x.bM.take j)) es∧es.length≤3000∧ai=gr kn (oN es.length (kN++n2 x.str.toNat G (x.bM.take j)).length 1) St (py es aG) [wS (c,G)])
  (Ex:=fun q e ai=>q=.exit 4∧∃ kn es aG,kq p kn∧aG≤es.length∧Ay (kN++n2 x.str.toNat G x.bM) es∧es.length≤3000∧(e 1=.t (lX fD aH)∧e 5=pK c1 c2 p∧e 6=.ref 2 1 0 0∧e 7=xm)∧ai=gr kn (oN es.length (kN++n2 x.str.toNat G x.bM).length 1) St (py es aG) [wS (c,G)]) (by omega) ?_ ?_ (by omega) ⟨kn,es,aG,he,hg,bN,by simpa[n2]using aS,hlen,by simp[n2]⟩ ?_
 ·rintro j a e ai Y gn hm aU v7 bx aB hw ⟨kn,es,aG,⟨s1,bC,bt,dE,cV,di,lv,qK,CB⟩,hg,bN,aS,hlen,rfl⟩ bW fl
  obtain⟨amq,_⟩:=aeP p h aH av cE U j
  have amk:=aeO amq
  have HG:x.bM.take (j+1)=x.bM.take j++[a]:=by rw[r3,v7];rfl
  rw[HG,avR,← fU]at bW
  have ab:=iT a hm
  have hh:=dY.2.2.1 a hm
  have BM:0≤a.dX→Jh p x.str G a:=by
   cases Hg with
   | mk _ _ eX dM bo gl ad ag =>
    rw[U]at dM
    cases dM
    exact ag a hm
  rw[J]at di BM
  simp only[J,ld]at bW aS amk ⊢
  generalize kN++n2 s G (x.bM.take j)=S at *
  have hy:∀(kn:List (jj × Bool)) (es:List ah) (aG n:Nat) (y:a9) (Z:aj) (e:aM),(∀ x∈es,∃ t,x=ah.t t)→iq 6 e (.map (fk iJ iS kn)::CZ::oN es.length n 1::St::py es aG::wS (c,G)::y::Z)=some (kV (.map (fk iJ iS kn)::CZ::oN es.length n 1::St::py es aG::wS (c,G)::y::Z) (bV 6) e,[.map (fk iJ iS kn),CZ,oN es.length n 1,St,py es aG,wS (c,G)]):=fun kn es aG n y Z e ae=>by
   have:=@QU kn (oN es.length n 1) St (py es aG) [wS (c,G)] (fun n aw=>by simp[hs,dw,cL,bV];omega) Bn (fun n _=>Kz ae _ _ _) (fun q aE n=>by simp only[kA]at aE;subst aE;rfl) e (y::Z) (by simp)
   exact this
  have yQ:∀ aY,dV aY (bV 6) (pK c1 c2 p)=some (pK c1 c2 p):=fun aY=>by simp[dV,jk,cL,dw,bV]
  have yR:∀ aY,dV aY (bV 6) xm=some xm:=fun aY=>by simp[dV,jk,cL,dw,bV]
  have aym:∀(kn:List (jj × Bool)) (Z:aj),snap (.map (fk iJ iS kn)::CZ::Z) ez 20 (pK c1 c2 p)=none:=fun kn Z=>rfl
  have agK:∀ x y z,e6 [pK c1 c2 p,x,y,z]=none:=fun x y z=>rfl
  have aCz:∀ o∈[wS (c,G)],∀ n,hs n o:=fun q aE n=>by simp only[kA]at aE;subst aE;rfl
  simp only[gr]
  by_cases kW:a.dX = -1
  ·obtain⟨k,an⟩:∃ k:Nat,a.jg=(k:Nat):=by
    rcases hh with⟨_,_,cG,_⟩|⟨_,b3,_⟩|⟨_,b3,_⟩
    ·exact⟨a.jg.toNat,by omega⟩
    ·omega
    ·omega
   rw[a6 kW]at bW
   have a3:decide (a.dX = -1)=true:=bY kW
   have RW:=fun St X Q bI=>avS kn S es aG 1 (by omega) bN aS (by omega) k (G.set s a.ec) (by simp[hJ.l]) St X (bn+1) aR Q bI
   obtain⟨bQ,to,dX,ee⟩:=a
   simp only at a3 an ab kW RW bW
   subst an
   simp only[gr]at RW
   (repeat' first|simp only[Ev,z1,go_sem,s1,bC,bt,dE,cV,di,lv,qK,CB,aB,bx,aU,a3,BB,v3,k2,iU,R7,axI,qq,aoz,eT,uA,w9]|with_reducible first|refine aZ fun _=>?_|refine a1 ?_|fail)
   with_reducible refine RW _ _ _ ?_
   intro q0 I4 RK vZ D3
   have anF:q0.length≤3000:=by omega
   have hy:=fun n y Z e=>hy kn q0 I4 n y Z e vZ.a
   simp only[Ev,z1,go_sem,s1,bC,bt,dE,cV,di,lv,qK,CB,hw,hy,yQ,yR]
   all_goals(refine bW _ _ ⟨kn,q0,I4,?_,hg,RK,?_,anF,?_⟩)
   ·simp only[go_sem,s1,bC,bt,dE,cV,di,lv,qK,hw,yQ,yR]
   ·exact vZ
   ·rw[gT];rfl
  ·rw[a2 kW,oj]at bW
   have a3:decide (a.dX = -1)=false:=bA kW
   by_cases j1:0≤a.dX
   ·obtain⟨k,an⟩:∃ k:Nat,a.dX=(k:Nat):=⟨a.dX.toNat,by omega⟩
    have ZG:k<p.aK.length:=by
     rcases hh with⟨b9,_⟩|⟨_,b3,_⟩|⟨_,_,cG⟩
     ·omega
     ·omega
     ·omega
    have a7:decide (0≤a.dX)=true:=bY j1
    have BM:=BM j1
    have amU:∀ n,5≤n→hs n (oN es.length S.length 1):=fun n aw=>by simp[hs,dw,cL,bV];omega
    have Z3:=fun X fa Q bI=>aw0 c1 c2 p h kn hg (oN es.length S.length 1) St (py es aG) X amU Bn (fun n _=>Kz aS.a _ _ _) fa s aoq G hJ.l hJ.b a k an ZG ⟨ab.1,by omega⟩ BM bn aR (by omega) Q bI
    obtain⟨bQ,to,dX,ee⟩:=a
    simp only at a3 a7 an
    subst an
    simp only[gr]at Z3
    (repeat' first|simp only[Ev,z1,go_sem,s1,bC,bt,dE,cV,di,lv,qK,CB,aB,bx,aU,a3,a7,BB,v3,k2,iU,eT,agK,aym]|with_reducible first|refine aZ fun _=>?_|refine a1 ?_|fail)
    with_reducible refine Z3 _ ?_ _ ?_
    ·intro o aC n
     simp only[iu,mG,mE]at aC
     rcases aC with rfl|rfl<;>rfl
    ·intro rA Z xM
     have hy:=fun n y Z e=>hy rA es aG n y Z e aS.a
     simp only[Ev,z1,go_sem,s1,bC,bt,dE,cV,di,lv,qK,CB,hw,hy,yQ,yR,dS,ea]
     all_goals(refine bW _ _ ⟨rA,es,aG,?_,xM,bN,aS,hlen,rfl⟩;simp only[go_sem,s1,bC,bt,dE,cV,di,lv,qK,hw,yQ,yR])
   ·have a7:decide (0≤a.dX)=false:=bA j1
    obtain⟨bQ,to,dX,ee⟩:=a
    simp only at a3 a7
    have hy:=fun n y Z e=>hy kn es aG n y Z e aS.a
    (repeat' first|simp only[Ev,z1,go_sem,s1,bC,bt,dE,cV,di,lv,qK,CB,aB,bx,aU,a3,a7,hw,hy,yQ,yR]|with_reducible first|refine aZ fun _=>?_|refine a1 ?_|fail)
    all_goals(refine bW _ _ ⟨kn,es,aG,?_,hg,bN,aS,hlen,rfl⟩;simp only[go_sem,s1,bC,bt,dE,cV,di,lv,qK,hw,yQ,yR])
 ·rintro e ai Y gn aB ⟨kn,es,aG,⟨s1,bC,bt,dE,cV,di,lv,qK,CB⟩,hg,bN,aS,hlen,rfl⟩ fl
  rw[s4]at aS ⊢
  simp only[gr]at fl ⊢
  simp only[Ev,z1,go_sem,s1,bC,bt,dE,cV,di,lv,qK,CB,aB]
  all_goals(refine fl _ _ _ ⟨rfl,kn,es,aG,hg,bN,aS,hlen,?_,by rw[gT]⟩;simp only[go_sem,s1,bC,bt,dE])
 ·rintro q e ai ⟨rfl,kn,es,aG,hg,bN,aS,hlen,J,rfl⟩
  exact bk e kn es aG hg bN aS hlen J
end
section
variable(c1 c2 fD:Bool)(p:b7)(h:jt p)(aH:List c3)(av:E2 p aH)
include h av
theorem avU(az:w4 p aH 0 (List.replicate 12 (-1))):a0 Tryz.prog pol 34 [g1 c1 c2 p,lX fD aH]=some (B true):=by
 obtain⟨aR,aw,tA⟩:∃ aR,p5 aH.length [(0,List.replicate 12 (-1))]<aR∧20000<aR:=⟨p5 aH.length [(0,List.replicate 12 (-1))]+20001,by omega,by omega⟩
 obtain⟨bn,sn⟩:∃ bn:Nat,bn=bn:=⟨0,rfl⟩
 have fA:=av.cx
 have kl:=av.eh
 have p0:104≤eQ:=by rw[Aq];omega
 have on:one []=.t (.ch []):=rfl
 refine cK (aR+20) (bn+3) aqe (bH rfl) ?_
 (repeat' first|simp only[Ts,go_sem,p0,on]|with_reducible refine aZ fun _=>?_|((with_reducible refine yM ?_ ?_);rfl)|((with_reducible refine lp aqG ?_ ?_);exact bH rfl;simp only[abW])|((with_reducible refine lp abX ?_ ?_);exact bH rfl;simp only[MB])|((with_reducible refine wc (body:=c6 _ _ _ _ _ _ Tt) ?_ ?_);exact bH rfl;simp only[aqf,Tu])|fail)
 refine Ad (St:=fun m e ai=>∃ kn S es aG fs,(e 1=.t (lX fD aH)∧e 5=pK c1 c2 p∧e 6=.ref 2 1 0 0∧e 7=xm)∧kq p kn∧aG≤es.length∧fs≤1∧Ay S es∧FC p aH S∧es.length≤3000∧m=p5 aH.length S∧ai=gr kn (oN es.length S.length fs) (.row 12 [.t (.agg ((List.replicate 12 (-1)).map I))] 1) (py es aG) [])
  (Ex:=fun q e ai=>q=.exit 2) ?_ ?_ _ (p5 aH.length [(0,List.replicate 12 (-1))]) _ _ (by omega) ⟨[],[(0,List.replicate 12 (-1))],[.t (tY (0,List.replicate 12 (-1)))],0,1,?_,?_,by simp,by omega,?_,ayV az ⟨by simp,by simp⟩ (by omega),by simp,rfl,rfl⟩
 ·rintro m e ai Y gn ⟨kn,S,es,aG,fs,⟨s1,bC,bt,dE⟩,hg,bN,ig,aS,Bn,hlen,hm,rfl⟩ bW fl
  simp only[gr]
  rcases List.eq_nil_or_concat S with rfl|⟨kN,⟨c,G⟩,rfl⟩
  ·simp only[Tw,It,go_sem,s1,bC,bt,dE,ig,lF]
   all_goals exact fl _ _ _ rfl
  ·rw[List.concat_eq_append]at *
   obtain⟨Hg,hJ,af⟩:=Bn.v (c,G) (by simp)
   simp only at Hg hJ af
   obtain⟨x,U,sw,jO⟩:∃ x,aH[c]? = some x∧G[x.str.toNat]? = some (-1)∧0≤x.str∧x.str<p.aK.length:=by
    cases Hg with
    | mk _ _ x U bo J ad ag=>exact⟨x,U,bo,J⟩
   obtain⟨tq,iT⟩:=Dy h (av.br c x U)
   obtain⟨Y0,LN⟩:=aeP p h aH av Bn U x.bM.length
   rw[s4]at Y0 LN
   have amr:=aeO Bn
   have jl:=aS.l
   rw[gT,vy]at amr jl
   have nj:es[kN.length]? = some (.t (tY (c,G))):=aS.g kN.length (c,G) (by simp)
   have aov:Ay kN es:=⟨by omega,fun i ew hi=>aS.g i ew (by rw[fv (cD.1 hi).1];exact hi),aS.a⟩
   have d1:decide ((0:Int)<((kN.length+1:Nat):Int))=true:=bY (by omega)
   have cI:IntKind.i64.wrap (((kN.length+1:Nat):Int)-1)=((kN.length:Nat):Int):=by rw[wrap_i64 (by omega) (by omega)];omega
   have Jw:kp 13 (.ms 4 es.length 0 (kN.length+1) 13 false) none (some (.t (I (kN.length:Nat)))) none=some (.ms 4 es.length 0 kN.length 13 false):=by simp[kp,hM,asNat]
   have ou:(aH.map tf)[c]? = some (tf x):=by rw[eE,U];rfl
   obtain⟨s,J⟩:∃ s:Nat,x.str=(s:Nat):=⟨x.str.toNat,by omega⟩
   have eB:=h.len
   have R7:s<12:=by omega
   have eT:=hJ.l
   have anL:kN.length<kN.length+1:=by omega
   have jM:kN.length<es.length:=by omega
   have amY:(List.drop (1+s) (ah.t (I (c:Nat))::(G.map I).map ah.t)).head? = some (.t (I (-1))):=by
    rw[J,ld]at sw
    rw[Gh,Ge,List.head?_drop,eE,eE,sw];rfl
   have hf:=fun R e=>@aAA c1 c2 fD p h aH av kn hg kN c G x U Bn es aG bN aov hlen (.row 12 [.t (.agg ((List.replicate 12 (-1)).map I))] 1) (fun n _=>rfl) (bn+1) (aR+20) (by omega) R e
   have v3:=N3 G
   have BB:(G.map I).length=12:=by simp[hJ.l]
   have k2:List.take 12 ((G.map I).map ah.t)=(G.map I).map .t:=l8 (by simp[hJ.l])
   have iU:∀ G:List Int,e6 ((G.map I).map ah.t)=some (G.map I):=fun G=>Kq _
   have t13:List.take 13 (ah.t (I (c:Nat))::(G.map I).map ah.t)=ah.t (I (c:Nat))::(G.map I).map .t:=l8 (by simp[hJ.l])
   have Py:=Xn G hJ.l c
   have yQ:∀ aY,dV aY (bV 5) (pK c1 c2 p)=some (pK c1 c2 p):=fun aY=>by simp[dV,jk,cL,dw,bV]
   have yR:∀ aY,dV aY (bV 5) xm=some xm:=fun aY=>by simp[dV,jk,cL,dw,bV]
   simp only[gr]at hf
   rw[J]at hf
   obtain⟨s',bM⟩:=x
   simp only at J
   subst J
   (repeat' first|simp only[Tw,It,go_sem,s1,bC,bt,dE,ig,d1,cI,nj,anL,jM,Jw,ou,af,amY,R7,eT,v3,BB,bN,k2,iU,t13,AP,w9]|with_reducible first|refine aZ fun _=>?_|refine a1 ?_|fail)
   with_reducible refine hf _ _ ?_ ?_
   ·simp only[go_sem,s1,bC,bt,dE]
   ·rintro e rA q0 I4 xM RK vZ D3 ⟨b9,qH,ns,rJ⟩
    have hy:=fun af0 e=>@QU rA (oN q0.length af0 1) (.row 12 [.t (.agg ((List.replicate 12 (-1)).map I))] 1) (py q0 I4) [] (fun n aw=>by simp[hs,dw,cL,bV];omega) (fun n _=>rfl) (fun n _=>Kz vZ.a _ _ _) (fun q aE=>by simp at aE) e [wS (c,G)] (by simp)
    simp only[gr,oj,ea,lF,nD]at hy
    simp only[Tw,It,go_sem,b9,qH,ns,rJ,hy,yQ,yR]
    all_goals(refine bW _ _ _ (by rw[hm];exact LN) ⟨rA,_,q0,I4,1,?_,xM,RK,bP _,vZ,Y0,D3,rfl,by rw[gT];rfl⟩;simp only[go_sem,b9,qH,ns,rJ,yQ,yR])
 ·rintro q e ai rfl
  simp only[Ts,go_sem]
 ·simp only[go_sem]
 ·intro k b ab
  cases ab
 ·exact⟨by simp,fun i ew hi=>by cases i with
   | zero=>simp at hi;subst hi;rfl
   | succ i=>simp at hi,fun x U=>by simp at U;exact⟨_,U⟩⟩
theorem avP(az:w4 p aH 0 (List.replicate 12 (-1))):a0 Tryz.prog pol 13 [g1 c1 c2 p,lX fD aH]=some (I 0):=by
 have bB:=Cp c1 c2 p h
 have aO:=ala c1 c2 fD p h aH av
 have ed:=avU c1 c2 fD p h aH av az
 refine cK 10 1 apJ (bH rfl) ?_
 (repeat' first|simp only[aa5,go_sem,bB,aO,ed]|with_reducible first|refine aZ fun _=>?_|refine a1 ?_|fail)
end
theorem akc(p:b7)(bD:Nat):∀(k:Nat) (g:List Int) (aH b8:List c3),fx p bD k g aH=.no b8→b8.length≤bD+1:=by
 intro k
 induction k with
 | zero=>intro g aH b8 h;cases h
 | succ k au =>
  intro g aH b8 h
  rw[fx]at h
  split at h
  ·cases h
  ·rename_i ni
   generalize eA:gJ (fun x (_:Unit) b8=>ep p (decide (k=0)) (fx p bD k) aH.length g x b8) hU.no 0 (List.replicate (hb p g) ()) (aH++[⟨(g.length:Nat),[]⟩])=F at h
   cases F with
   | lq=>cases h
   | yes hX q=>cases h
   | no q =>
    have bK:=GV (step:=fun x b8=>ep p (decide (k=0)) (fx p bD k) aH.length g x b8) (N:=hb p g) (fun _ q=>q.length≤bD+1)
     (fun x q ju _ hi J=>by
      simp only[ep]at J
      split at J
      ·split at J
       ·cases J
       ·split at J
        ·rename_i a3 al
         cases J
         rw[ke]
         exact au _ _ _ al
        ·cases J
      ·cases J
       rw[ke];exact hi) (fun x q r J=>JA J) _ 0 _ (by omega) (by simp;omega) eA
    simp only[DG,hU.no.injEq]at h
    subst h
    split
    ·rw[ke];exact bK
    ·exact bK
theorem ayE(c1 c2 fD:Bool){p:b7}(h:jt p){bD:Nat}(ni:bD≤1999){aH:List c3}(aw:1≤p.aK.length)(he:fx p bD p.aK.length [] []=.no aH):a0 Tryz.prog pol 13 [g1 c1 c2 p,lX fD aH]=some (I 0):=by
 obtain⟨a,b,c,_⟩:=akh h bD p.aK.length [] [] aH he (by simp) (fun j v az=>by simp at az) (fun _=>rfl)
 have ao:=akc p bD _ _ _ _ he
 have av:=(KN p bD _ _ _ _ he).1
 exact avP c1 c2 fD p h aH ⟨av,by omega,fun c x U=>b c x (by simp) U,fun n bo ad=>by rw[c n,a6 ⟨by simpa using bo,ad⟩];simp[ht]⟩ (a aH fun _ _ _=>rfl)
abbrev pX(L:List Nat):List T:=(L.map eI).map I
theorem Nj(L:List Nat):(pX L).length=L.length:=by simp
theorem Ni{L:List Nat}{i x:Nat}(h:L[i]? = some x):(pX L)[i]? = some (I ((x:Nat):Int)):=by simp[h,eI]
theorem Vx(c:Bool)(L:List Nat)(x:Nat)(ao:L.length≤2000):a0 Tryz.prog pol 101 [.aP c 1 (pX L),I (x:Nat)]=some (B (decide (x∈L))):=by
 have cx:=Nj L
 refine cK 2001 1 ao7 (bH rfl) ?_
 simp only[LZ,go_sem]
 refine hA L (fun p=>I (eI p)) (St:=fun i e ai=>(e 0=.t (.aP c 1 (pX L))∧e 1=.t (I (x:Nat))∧e 5=.t (I (i:Nat)))∧ai=[]∧∀ j y,j<i→L[j]? = some y→y≠x)
  (Ex:=fun q e ai=>(q=.exit 0∧ai=[]∧x ∉ L)∨(q=.ret∧e 4=.t (B true)∧x∈L)) (by omega) ?_ ?_ (by omega) ?_ ?_
 ·rintro i y e ai Y R hm hi U _ aB hw ⟨⟨bE,s1,bC⟩,rfl,fg⟩ bW bk
  have G5:=Ni U
  generalize aF:decide (((y:Nat):Int)=((x:Nat):Int))=d
  cases d
  ·simp only[Sw,H2,go_sem,bE,s1,bC,aB,hw,G5,cx,aF,hi]
   all_goals(refine bW _ _ ⟨?_,rfl,fun j z aU bl=>?_⟩)
   ·simp only[go_sem,bE,s1,hw]
   ·by_cases xK:j=i
    ·subst xK;rw[U]at bl;cases bl
     have:=r1 aF;omega
    ·exact fg j z (by omega) bl
  ·simp only[Sw,H2,go_sem,bE,s1,bC,aB,hw,G5,cx,aF,hi]
   all_goals(refine bk _ _ _ (.inr ⟨rfl,?_,?_⟩))
   ·simp only[go_sem]
   ·have:=ka aF
    rw[show x=y by omega];exact hm
 ·rintro e ai Y R aB ⟨⟨bE,s1,bC⟩,rfl,fg⟩ bk
  simp only[Sw,H2,go_sem,bE,s1,bC,aB,cx]
  all_goals(refine bk _ _ _ (.inl ⟨rfl,rfl,fun hm=>?_⟩))
  obtain⟨j,aU⟩:=w6.1 hm
  exact fg j x (cD.1 aU).1 aU rfl
 ·refine⟨?_,rfl,fun j y aU=>by omega⟩
  simp only[go_sem]
 ·rintro q e ai (⟨rfl,rfl,U⟩|⟨rfl,bL,U⟩)
  ·rw[bA U]
   simp only[LZ,go_sem]
  ·rw[bY U]
   simp only[LZ,go_sem,bL]
section
variable(c1 c2:Bool)(t:bR)(h:g0 t=true)
theorem av4(x:Nat)(ao:t.cd.length≤1000)(U:x<2*t.cd.length):a0 Tryz.prog pol 102 [fY c1 c2 t,I (x:Nat)]=some (B true):=by
 have w:IntKind.i64.wrap (2*((t.cd.length:Nat):Int))=((2*t.cd.length:Nat):Int):=by rw[wrap_i64 (by omega) (by omega)];omega
 have d:decide (((x:Nat):Int)<((2*t.cd.length:Nat):Int))=true:=bY (by omega)
 refine cK 1 1 ao8 (bH rfl) ?_
 simp only[aav,go_sem,w,d,bJ]
include h
theorem Vy(c:Bool)(r:List Nat)(al:yr t r)(ao:r.length≤8)(eo:1≤r.length):a0 Tryz.prog pol 67 [fY c1 c2 t,.aP c 1 (oG r)]=some (.aP false 1 (pX (ei t r))):=by
 obtain⟨jy,jz,jA⟩:=mw h
 have cx:=rI r
 have sw:r[0]? = some r[0]:=fC (by omega)
 have pQ:=al _ (oP (show 0<r.length by omega))
 have gV:=pe sw
 have uZ:=E5 c1 c2 t r[0] pQ (by omega)
 rw[(mZ h pQ).1]at uZ
 have iV:(ei t r).take 1=[lN t r[0]]:=by simp[ei,sw]
 have bo:0<r.length:=by omega
 have arI:ev 1 I [((lN t r[0]:Nat):Int)]=ev 1 I (((ei t r).take 1).map eI):=by rw[iV];rfl
 have Cv:a9.row 1 [ah.t (I ((lN t r[0]:Nat):Int))] 0=ev 1 I [((lN t r[0]:Nat):Int)]:=rfl
 generalize r[0]=qE at *
 generalize lN t qE=f0 at *
 refine cK 2001 1 aqO (bH rfl) ?_
 (repeat' first|simp only[T2,go_sem,uZ,gV,bo,cx,Cv,arI]|with_reducible first|refine aZ fun _=>?_|refine a1 ?_|fail)
 refine hA r (fun p=>I (eI p)) (St:=fun i e ai=>(e 1=.t (.aP c 1 (oG r))∧e 2=.t (.ip (dO c1 c2 t))∧e 5=.ms 0 (i+1) 0 (i+1) 1 false∧e 6=.t (I (i:Nat)))∧ai=[ev 1 I (((ei t r).take (i+1)).map eI)])
  (Ex:=fun x e ai=>e 5=.ms 0 (r.length+1) 0 (r.length+1) 1 false∧x=.exit 0∧ai=[ev 1 I ((ei t r).map eI)]) (by omega) ?_ ?_ (by omega) ?_ ?_
 ·rintro i p e ai Y R hm hi U _ aB hw ⟨⟨s1,s2,bC,bt⟩,rfl⟩ bW bk
  have gj:=pe U
  have jE:=Ao c1 c2 t p (al p hm) (by omega)
  rw[(mZ h (al p hm)).2.1]at jE
  have k2:(ei t r).take (i+1+1)=(ei t r).take (i+1)++[jT t p]:=by rw[r3,Nk U];rfl
  have so:((ei t r).take (i+1)).length=i+1:=by rw[r4,yg];omega
  rw[k2,ux]at bW
  generalize (ei t r).take (i+1)=S at *
  have fr:(i+1+1)*8≤eQ:=l9 (by omega) (by omega)
  have jP:lY 1 (i+1) (some (ev 1 I (S.map eI))):=by have:=ph (k:=1) (enc:=I) (l:=S.map eI);rwa[bJ,so]at this
  generalize jT t p=C at *
  (repeat' first|simp only[ab9,MK,go_sem,s1,s2,bC,bt,aB,hw,gj,jE,cx,fr,jP,pg,pj,yx,Bj]|with_reducible first|refine aZ fun _=>?_|refine a1 ?_|fail)
  all_goals(refine bW _ _ ⟨?_,rfl⟩;simp only[go_sem,s1,s2,hw])
 ·rintro e ai Y R aB ⟨⟨s1,s2,bC,bt⟩,rfl⟩ bk
  have ax:(ei t r).take (r.length+1)=ei t r:=l8 (by rw[yg];omega)
  simp only[ab9,MK,go_sem,s1,s2,bC,bt,aB,cx]
  all_goals(refine bk _ _ _ ⟨?_,rfl,by rw[ax]⟩;simp only[go_sem,bC])
 ·refine⟨?_,rfl⟩
  simp only[go_sem]
 ·rintro x e ai ⟨ad,rfl,rfl⟩
  have so:=yg (t:=t) r
  have jP:lY 1 (r.length+1) (some (ev 1 I ((ei t r).map eI))):=by have:=ph (k:=1) (enc:=I) (l:=(ei t r).map eI);rwa[bJ,so]at this
  have gk:((ei t r).map eI).length=r.length+1:=by rw[bJ,so]
  generalize cE:(ei t r).map eI=S at *
  simp only[T2,go_sem,ad,jP,pg,pj,gk]
  rw[pX,cE]
omit h in
theorem aed(c c':Bool)(A D:List Nat)(ao:A.length≤20)(j3:D.length≤20)(ad:1≤A.length):∃ r,a0 Tryz.prog pol 66 [.aP c 1 (pX A),.aP c' 1 (pX D)]=some r∧∃ b,r=B b∧(b=false→∀ x∈(A.take (A.length-1)).drop 1,x ∉ D):=by
 have cx:=Nj A
 have w0:IntKind.i64.wrap (((A.length:Nat):Int)-1)=((A.length-1:Nat):Int):=by rw[wrap_i64 (by omega) (by omega)];omega
 refine qX 2001 1 aqN (bH rfl) ?_
 simp only[MJ,go_sem]
 refine Ad (St:=fun k e ai=>∃ i:Nat,(e 0=.t (.aP c 1 (pX A))∧e 1=.t (.aP c' 1 (pX D))∧e 5=.t (I (i:Nat)))∧ai=[]∧1≤i∧k=A.length-i∧∀ j y,1≤j→j<i→A[j]? = some y→y ∉ D)
  (Ex:=fun q e ai=>(q=.ret∧e 4=.t (B true))∨(q=.exit 0∧ai=[]∧∀ x∈(A.take (A.length-1)).drop 1,x ∉ D)) ?_ ?_ _ (A.length-1) _ _ (by omega) ?_
 ·rintro k e ai Y R ⟨i,⟨bE,s1,bC⟩,rfl,aB7,an,fg⟩ bW bk
  generalize aF:decide (((i:Nat):Int)<((A.length-1:Nat):Int))=d
  cases d
  ·have vR:=r1 aF
   simp only[T1,IF,go_sem,bE,s1,bC,cx,w0,aF]
   all_goals(refine bk _ _ _ (.inr ⟨rfl,rfl,fun x U=>?_⟩))
   obtain⟨j,aU⟩:=w6.1 U
   rw[nF,l4]at aU
   split at aU
   ·exact fg (1+j) x (by omega) (by omega) aU
   ·cases aU
  ·have vR:=ka aF
   have U:A[i]? = some A[i]:=fC (by omega)
   have hi:i<A.length:=by omega
   generalize A[i]=y at *
   have G5:=Ni U
   have ij:=Vx c' D y (by omega)
   have hw:IntKind.i64.wrap ((i:Nat)+1:Int)=((i+1:Nat):Int):=wrap_i64 (by omega) (by omega)
   generalize aE:decide (y∈D)=q at *
   cases q
   ·(repeat' first|simp only[T1,IF,go_sem,bE,s1,bC,cx,w0,aF,G5,ij,hw,hi]|with_reducible first|refine aZ fun _=>?_|refine a1 ?_|fail)
    all_goals(refine bW (k-1) _ _ (by omega) ⟨i+1,?_,rfl,by omega,by omega,fun j z uY ry bl=>?_⟩)
    ·simp only[go_sem,bE,s1,hw]
    ·by_cases xK:j=i
     ·subst xK;rw[U]at bl;cases bl;exact r1 aE
     ·exact fg j z uY (by omega) bl
   ·simp only[T1,IF,go_sem,bE,s1,bC,cx,w0,aF,G5,ij,hi]
    all_goals(refine bk _ _ _ (.inl ⟨rfl,?_⟩);simp only[go_sem])
 ·rintro q e ai (⟨rfl,bL⟩|⟨rfl,rfl,U⟩)
  ·simp only[MJ,go_sem,bL,lh]
   exact⟨true,rfl,fun ab=>by cases ab⟩
  ·simp only[MJ,go_sem,lh]
   exact⟨false,rfl,fun _=>U⟩
 ·refine⟨1,?_,rfl,by omega,rfl,fun j y uY ry=>by omega⟩
  simp only[go_sem]
end
section
variable(c1 c2:Bool)(t:bR)(h:g0 t=true)
include h
theorem Vv(f g:Bool)(a b:List Nat)(ae:hS t a)(ab:hS t b):∃ r,a0 Tryz.prog pol 42 [fY c1 c2 t,fO f a,fO g b]=some r∧∃ bS,r=B bS∧(bS=true→Gr t a b):=by
 obtain⟨jy,jz,jA⟩:=mw h
 have cx:=rI a
 have gQ:=rI b
 have lH:=ae.eh
 have cJ:=ae.cx
 have j0:=ab.eh
 have cN:=ab.cx
 have bB:=Vy c1 c2 t h f a ae.p cJ lH
 have aO:=Vy c1 c2 t h g b ab.p cN j0
 have fR:=yg (t:=t) a
 have gR:=yg (t:=t) b
 obtain⟨_,ed,x,rfl,U⟩:=aed false false (ei t a) (ei t b) (by omega) (by omega) (by omega)
 obtain⟨_,gb,y,rfl,ar⟩:=aed false false (ei t b) (ei t a) (by omega) (by omega) (by omega)
 rw[fR,Nat.add_sub_cancel]at U
 rw[gR,Nat.add_sub_cancel]at ar
 refine qX 200 1 aqn (bH rfl) ?_
 simp only[Ms,go_sem]
 refine hA a (fun p=>I (eI p)) (St:=fun i e ai=>(e 1=.t (fO f a)∧e 2=.t (fO g b)∧e 3=.t (.ip (dO c1 c2 t))∧e 7=.t (I (i:Nat)))∧ai=[]∧∀ j p,j<i→a[j]? = some p→∀ q∈b,p / 2≠q / 2)
  (Ex:=fun x e ai=>(x=.ret∧e 6=.t (B false))∨(x=.exit 0∧(e 1=.t (fO f a)∧e 2=.t (fO g b)∧e 3=.t (.ip (dO c1 c2 t)))∧ai=[]∧∀ p∈a,∀ q∈b,p / 2≠q / 2)) (by omega) ?_ ?_ (by omega) ?_ ?_
 ·rintro i p e ai Y R hm hi ko _ aB hw ⟨⟨s1,s2,a8,dE⟩,rfl,fg⟩ bW bk
  have gj:=pe ko
  have wQ:=vP (ae.p p hm) (show t.cd.length≤1000 by omega)
  simp only[Mt,EA,go_sem,s1,s2,a8,dE,aB,cx]
  refine hA b (fun p=>I (eI p)) (St:=fun j e ai=>(e 1=.t (fO f a)∧e 2=.t (fO g b)∧e 3=.t (.ip (dO c1 c2 t))∧e 7=.t (I (i:Nat))∧e 8=.t (I (j:Nat)))∧ai=[]∧∀ n q,n<j→b[n]? = some q→p / 2≠q / 2)
   (Ex:=fun x e ai=>(x=.ret∧e 6=.t (B false))∨(x=.exit 2∧(e 1=.t (fO f a)∧e 2=.t (fO g b)∧e 3=.t (.ip (dO c1 c2 t))∧e 7=.t (I (i:Nat)))∧ai=[]∧∀ q∈b,p / 2≠q / 2)) (by omega) ?_ ?_ (by omega) ?_ ?_
  ·rintro j q e ai OM gn iE aU LO _ k0 je ⟨⟨b9,b3,cG,rJ,sN⟩,rfl,zJ⟩ QY fl
   have xt:=pe LO
   have yK:=vP (ab.p q iE) (show t.cd.length≤1000 by omega)
   generalize aF:decide (((p / 2:Nat):Int)=((q / 2:Nat):Int))=d
   cases d
   ·(repeat' first|simp only[TB,Iw,go_sem,b9,b3,cG,rJ,sN,k0,je,gj,xt,wQ,yK,aF,hi,aU,cx,gQ]|with_reducible first|refine aZ fun _=>?_|refine a1 ?_|fail)
    all_goals(refine QY _ _ ⟨?_,rfl,fun n z mr bl=>?_⟩)
    ·simp only[go_sem,b9,b3,cG,rJ,je]
    ·by_cases D6:n=j
     ·subst D6;rw[LO]at bl;cases bl;have:=r1 aF;omega
     ·exact zJ n z (by omega) bl
   ·(repeat' first|simp only[TB,Iw,go_sem,b9,b3,cG,rJ,sN,k0,je,gj,xt,wQ,yK,aF,hi,aU,cx,gQ]|with_reducible first|refine aZ fun _=>?_|refine a1 ?_|fail)
    all_goals(refine fl _ _ _ (.inl ⟨rfl,?_⟩);simp only[go_sem])
  ·rintro e ai OM gn k0 ⟨⟨b9,b3,cG,rJ,sN⟩,rfl,zJ⟩ fl
   simp only[TB,Iw,go_sem,b9,b3,cG,rJ,sN,k0,gQ]
   all_goals(refine fl _ _ _ (.inr ⟨rfl,?_,rfl,fun q aE=>?_⟩))
   ·simp only[go_sem,b9,b3,cG,rJ]
   ·obtain⟨n,aw⟩:=w6.1 aE
    exact zJ n q (cD.1 aw).1 aw
  ·refine⟨?_,rfl,fun n q mr=>by omega⟩
   simp only[go_sem,s1,s2,a8,dE]
  ·rintro x e ai (⟨rfl,fQ⟩|⟨rfl,⟨b9,b3,cG,rJ⟩,rfl,aE⟩)
   ·simp only[Mt,EA,go_sem,fQ]
    all_goals(refine bk _ _ _ (.inl ⟨rfl,?_⟩);simp only[go_sem,fQ])
   ·simp only[Mt,EA,go_sem,b9,b3,cG,rJ,hw]
    all_goals(refine bW _ _ ⟨?_,rfl,fun n z mr bl=>?_⟩)
    ·simp only[go_sem,b9,b3,cG,hw]
    ·by_cases D6:n=i
     ·subst D6;rw[ko]at bl;cases bl;exact aE
     ·exact fg n z (by omega) bl
 ·rintro e ai Y R aB ⟨⟨s1,s2,a8,dE⟩,rfl,fg⟩ bk
  simp only[Mt,EA,go_sem,s1,s2,a8,dE,aB,cx]
  all_goals(refine bk _ _ _ (.inr ⟨rfl,?_,rfl,fun q aE=>?_⟩))
  ·simp only[go_sem,s1,s2,a8]
  ·obtain⟨n,aw⟩:=w6.1 aE
   exact fg n q (cD.1 aw).1 aw
 ·refine⟨?_,rfl,fun n q mr=>by omega⟩
  simp only[go_sem]
 ·rintro eX e ai (⟨rfl,fQ⟩|⟨rfl,⟨b9,b3,cG⟩,rfl,aE⟩)
  ·simp only[Ms,go_sem,fQ,lh]
   exact⟨false,rfl,fun ab=>by cases ab⟩
  ·cases x<;>cases y
   all_goals((repeat' first|simp only[Ms,go_sem,b9,b3,cG,bB,aO,ed,gb,lh]|with_reducible first|refine aZ fun _=>?_|refine a1 ?_|fail))
   all_goals first
    | (refine⟨true,rfl,fun _=>⟨aE,U rfl,ar rfl⟩⟩;done)
    | (refine⟨false,rfl,fun ab=>by cases ab⟩)
theorem ad9(c:Bool)(r:List Nat)(av:yr t r)(ao:r.length≤1000):∃ v,a0 Tryz.prog pol 65 [fY c1 c2 t,.aP c 1 (oG r)]=some v∧∃ b,v=B b∧(b=true→hS t r):=by
 obtain⟨jy,jz,jA⟩:=mw h
 have cx:=rI r
 by_cases ad:r.length<1
 ·have aT:decide (((r.length:Nat):Int)<1)=true:=bY (by omega)
  refine qX 1 1 T0 (bH rfl) ?_
  simp only[B5,go_sem,aT,cx,lh]
  exact⟨false,rfl,fun ab=>by cases ab⟩
 have aT:decide (((r.length:Nat):Int)<1)=false:=bA (by omega)
 by_cases mO:8<r.length
 ·have aW:decide ((8:Int)<((r.length:Nat):Int))=true:=bY (by omega)
  refine qX 1 1 T0 (bH rfl) ?_
  simp only[B5,go_sem,aT,aW,cx,lh]
  exact⟨false,rfl,fun ab=>by cases ab⟩
 have aW:decide ((8:Int)<((r.length:Nat):Int))=false:=bA (by omega)
 have asw:=Vy c1 c2 t h c r av (by omega) (by omega)
 have so:=yg (t:=t) r
 have km:∀ x∈ei t r,x<t.nodes.toNat:=by
  intro x U
  rcases iu.1 U with rfl|U
  ·have sw:r[0]? = some r[0]:=fC (by omega)
   rw[sw]
   exact(mZ h (av _ (oP _))).2.2.1
  ·obtain⟨p,qo,rfl⟩:=nE.1 U
   exact(mZ h (av p qo)).2.2.2.1
 refine qX 200 1 T0 (bH rfl) ?_
 simp only[B5,go_sem,aT,aW,cx]
 refine hA r (fun p=>I (eI p)) (St:=fun i e ai=>(e 1=.t (.aP c 1 (oG r))∧e 2=.t (.ip (dO c1 c2 t))∧e 5=.t (I (i:Nat)))∧ai=[])
  (Ex:=fun x e ai=>x=.exit 0∧(e 1=.t (.aP c 1 (oG r))∧e 2=.t (.ip (dO c1 c2 t)))∧ai=[]) (by omega) ?_ ?_ (by omega) ?_ ?_
 ·rintro i p e ai Y R hm hi U _ aB hw ⟨⟨s1,s2,bC⟩,rfl⟩ bW bk
  have gj:=pe U
  have iJ:=av4 c1 c2 t p (by omega) (av p hm)
  (repeat' first|simp only[ab5,MI,go_sem,s1,s2,bC,aB,hw,gj,hi,iJ,cx]|with_reducible first|refine aZ fun _=>?_|refine a1 ?_|fail)
  all_goals(refine bW _ _ ⟨?_,rfl⟩;simp only[go_sem,s1,s2,hw])
 ·rintro e ai Y R aB ⟨⟨s1,s2,bC⟩,rfl⟩ bk
  simp only[ab5,MI,go_sem,s1,s2,bC,aB,cx]
  all_goals(refine bk _ _ _ ⟨rfl,?_,rfl⟩;simp only[go_sem,s1,s2])
 ·refine⟨?_,rfl⟩
  simp only[go_sem]
 ·rintro x e ai ⟨rfl,⟨s1,s2⟩,rfl⟩
  have Cc:=Nj (ei t r)
  simp only[B5,go_sem,s1,s2,asw]
  refine hA (ei t r) (fun p=>I (eI p)) (St:=fun i e ai=>(e 1=.t (.aP c 1 (oG r))∧e 2=.t (.ip (dO c1 c2 t))∧e 6=.t (.aP false 1 (pX (ei t r)))∧e 7=.t (I (i:Nat)))∧ai=[]∧∀(j x:Nat),j<i→(ei t r)[j]? = some x→x ∉ (ei t r).take j∧(0<j→∀ p,r[j]? = some p→h9 t x=false∧lN t p=x))
   (Ex:=fun x e ai=>(x=.ret∧e 4=.t (B false))∨(x=.exit 2∧ai=[]∧hS t r)) (by omega) ?_ ?_ (by omega) ?_ ?_
  ·rintro i x e ai Y R hm hi U _ aB hw ⟨⟨s1,s2,bt,dE⟩,rfl,fg⟩ bW bk
   have ou:=Ni U
   have aoP:=km x hm
   obtain⟨si,aS⟩:=Ax h aoP
   have ij:∀ c',a0 Tryz.prog pol 101 [.aP c' 1 (List.take i (pX (ei t r))),I ((x:Nat):Int)]=some (B (decide (x∈(ei t r).take i))):=fun c'=>by
    have k:=Vx c' ((ei t r).take i) x (by rw[r4];omega)
    rwa[pX,y7,y7]at k
   have fz:i≤(ei t r).length:=by omega
   have step:(x ∉ (ei t r).take i∧(0<i→∀ p,r[i]? = some p→h9 t x=false∧lN t p=x))→∀(j y:Nat),j<i+1→(ei t r)[j]? = some y→y ∉ (ei t r).take j∧(0<j→∀ p,r[j]? = some p→h9 t y=false∧lN t p=y):=fun J j y aU ar=>by
    by_cases xK:j=i
    ·subst xK;rw[U]at ar;cases ar;exact J
    ·exact fg j y (by omega) ar
   generalize rk:decide (x∈(ei t r).take i)=a3 at *
   cases a3
   ·have mr:=r1 rk
    generalize h6:decide ((0:Int)<((i:Nat):Int))=a7
    cases a7
    ·have pb:=r1 h6
     (repeat' first|simp only[B6,x4,go_sem,s1,s2,bt,dE,aB,hw,ou,hi,fz,ij,Cc,h6]|with_reducible first|refine aZ fun _=>?_|refine a1 ?_|fail)
     all_goals(refine bW _ _ ⟨?_,rfl,step ⟨mr,fun bo=>by omega⟩⟩;simp only[go_sem,s1,s2,bt,hw])
    ·generalize vW:decide (((i:Nat):Int)<((r.length:Nat):Int))=cz
     cases cz
     ·have yf:=r1 vW
      (repeat' first|simp only[B6,x4,go_sem,s1,s2,bt,dE,aB,hw,ou,hi,fz,ij,Cc,h6,vW,cx]|with_reducible first|refine aZ fun _=>?_|refine a1 ?_|fail)
      all_goals(refine bW _ _ ⟨?_,rfl,step ⟨mr,fun bo p av=>by have:=(cD.1 av).1;omega⟩⟩;simp only[go_sem,s1,s2,bt,hw])
     ·have yf:=ka vW
      have ri:r[i]? = some r[i]:=fC (by omega)
      have qo:=av _ (oP (show i<r.length by omega))
      have ZC:i<r.length:=by omega
      generalize r[i]=p at *
      have gj:=pe ri
      have oz:=E5 c1 c2 t p qo (by omega)
      rw[(mZ h qo).1]at oz
      generalize vZ:h9 t x=eJ at *
      cases eJ
      ·generalize RY:decide (((lN t p:Nat):Int)=((x:Nat):Int))=gD
       have aow:gD=true→_:=fun e=>step ⟨mr,fun bo p' o3=>by
        rw[ri]at o3;cases o3
        subst e
        exact⟨by first|rfl|trivial,by have:=ka RY;omega⟩⟩
       cases gD
       ·(repeat' first|simp only[B6,x4,go_sem,s1,s2,bt,dE,aB,hw,ou,hi,fz,ij,Cc,h6,vW,cx,si,aS,gj,oz,RY,ZC,bJ]|with_reducible first|refine aZ fun _=>?_|refine a1 ?_|fail)
        all_goals(refine bk _ _ _ (.inl ⟨rfl,?_⟩);simp only[go_sem])
       ·(repeat' first|simp only[B6,x4,go_sem,s1,s2,bt,dE,aB,hw,ou,hi,fz,ij,Cc,h6,vW,cx,si,aS,gj,oz,RY,ZC,bJ]|with_reducible first|refine aZ fun _=>?_|refine a1 ?_|fail)
        all_goals(refine bW _ _ ⟨?_,rfl,aow rfl⟩;simp only[go_sem,s1,s2,bt,hw])
      ·(repeat' first|simp only[B6,x4,go_sem,s1,s2,bt,dE,aB,hw,ou,hi,fz,ij,Cc,h6,vW,cx,si,aS,bJ]|with_reducible first|refine aZ fun _=>?_|refine a1 ?_|fail)
       all_goals(refine bk _ _ _ (.inl ⟨rfl,?_⟩);simp only[go_sem])
   ·(repeat' first|simp only[B6,x4,go_sem,s1,s2,bt,dE,aB,hw,ou,hi,fz,ij,Cc]|with_reducible first|refine aZ fun _=>?_|refine a1 ?_|fail)
    all_goals(refine bk _ _ _ (.inl ⟨rfl,?_⟩);simp only[go_sem])
  ·rintro e ai Y R aB ⟨⟨s1,s2,bt,dE⟩,rfl,fg⟩ bk
   simp only[B6,x4,go_sem,s1,s2,bt,dE,aB,Cc]
   all_goals(refine bk _ _ _ (.inr ⟨rfl,rfl,⟨by omega,by omega,av,?_,?_⟩⟩))
   ·rw[WU,OP]
    intro i j hi aU gY he
    have:=(fg j _ aU (fC aU)).1
    apply this
    rw[← he]
    exact gp (i:=i) (by rw[l4,a6 gY,fC hi])
   ·intro i p q vU LF
    have jM:=(cD.1 LF).1
    have:=(fg (i+1) (jT t p) (by omega) (Nk vU)).2 (by omega) q LF
    exact⟨this.2.symm,this.1⟩
  ·refine⟨?_,rfl,fun j x aU=>by omega⟩
   simp only[go_sem,s1,s2]
  ·rintro x e ai (⟨rfl,bL⟩|⟨rfl,rfl,ck⟩)
   ·simp only[B5,go_sem,bL,lh]
    exact⟨false,rfl,fun ab=>by cases ab⟩
   ·simp only[B5,go_sem,lh]
    exact⟨true,rfl,fun _=>ck⟩
end
abbrev aU(S R:List Nat):aj:=[ev 1 I (S.map eI),ev 1 I (R.map eI)]
abbrev aE(S R P:List Nat):aj:=[ev 1 I (S.map eI),ev 1 I (R.map eI),ev 1 I (P.map eI)]
theorem aoe{S R P:List Nat}{x:Nat}(h:(P.length+1)*8≤eQ):qY 1 8 (.ms 2 P.length 0 P.length 1 false) (aE S R P) (some [.t (I (x:Nat))])=some (.ms 2 (P.length+1) 0 (P.length+1) 1 false,aE S R (P++[x])):=by
 simp only[zi,pA,lG,ev]
 rw[zh,a6 ⟨h,rfl,rfl,by simp,by simp,by simp⟩]
 simp[ev,eI]
theorem Z0{S R P:List Nat}{x n:Nat}(aw:S.length=n)(h:(n+1)*8≤eQ):qY 1 8 (.ms 0 n 0 n 1 false) (aE S R P) (some [.t (I (x:Nat))])=some (.ms 0 (n+1) 0 (n+1) 1 false,aE (S++[x]) R P):=by
 subst aw
 simp only[zi,pA,lG,ev]
 rw[zh,a6 ⟨h,rfl,rfl,by simp,by simp,by simp⟩]
 simp[ev,eI]
theorem ZZ{S R P:List Nat}{x:Nat}(h:(R.length+1)*8≤eQ):qY 1 8 (.ms 1 R.length 0 R.length 1 false) (aE S R P) (some [.t (I (x:Nat))])=some (.ms 1 (R.length+1) 0 (R.length+1) 1 false,aE S (R++[x]) P):=by
 simp only[zi,pA,lG,ev]
 rw[zh,a6 ⟨h,rfl,rfl,by simp,by simp,by simp⟩]
 simp[ev,eI]
theorem VS{h:aj}{o n:Nat}{L:List Nat}(ay:h[o]? = some (ev 1 I (L.map eI)))(aw:L.length=n):NX h 19 false 1 (gU h 1 (.ms o n 0 n 1 false))=some (.aP false 1 (pX L)):=by
 subst aw
 rw[X6,ay,ev,P5]
 rw[a6 (by simp)]
 rw[l6,l8 (by simp),aeH,adg]
 rfl
section
variable(c1 c2:Bool)(t:bR)(h:g0 t=true)
include h
theorem ayG(S r Q:List Nat)(cE:S.length=r.length+1)(vX:r.length≤8)(bI:∀ p∈Q,p<2*t.cd.length)(aBY:Q.length≤48)(fo:T)(OA:eY)(aR:Nat)(aw:1000<aR)(R:cW→aM→aj→Prop)(e:aM)
  (he:e 3=.t (.ip (dO c1 c2 t))∧e 8=.ms 0 (r.length+1) 0 (r.length+1) 1 false∧e 10=.ms 2 0 0 0 1 false∧e 11=.t (.aP false 1 (pX Q))∧e 12=.t (I 0)∧e 2=.t fo∧e 9=.ms 1 r.length 0 r.length 1 false)
  (bk:∀ e P,(∀ p∈P,p<2*t.cd.length)→P.length≤48→(e 3=.t (.ip (dO c1 c2 t))∧e 8=.ms 0 (r.length+1) 0 (r.length+1) 1 false∧e 10=.ms 2 P.length 0 P.length 1 false∧e 2=.t fo∧e 9=.ms 1 r.length 0 r.length 1 false)→R (.exit 2) e (aE S r P)) (bo:aj) (Rs:bo=aE S r []) :
  gP 3 (some [2,3,8,9,10,11,12]) (c6 Tryz.prog pol (a0 Tryz.prog pol) OA aR 64 TY) R aR e bo:=by
 subst Rs
 obtain⟨jy,jz,jA⟩:=mw h
 have UK:=Nj Q
 refine hA Q (fun p=>I (eI p)) (St:=fun i e ai=>∃ P,(e 3=.t (.ip (dO c1 c2 t))∧e 8=.ms 0 (r.length+1) 0 (r.length+1) 1 false∧e 10=.ms 2 P.length 0 P.length 1 false∧e 11=.t (.aP false 1 (pX Q))∧e 12=.t (I (i:Nat))∧e 2=.t fo∧e 9=.ms 1 r.length 0 r.length 1 false)∧(∀ p∈P,p<2*t.cd.length)∧P.length≤i∧ai=aE S r P)
  (Ex:=fun x e ai=>∃ P,(∀ p∈P,p<2*t.cd.length)∧P.length≤48∧(e 3=.t (.ip (dO c1 c2 t))∧e 8=.ms 0 (r.length+1) 0 (r.length+1) 1 false∧e 10=.ms 2 P.length 0 P.length 1 false∧e 2=.t fo∧e 9=.ms 1 r.length 0 r.length 1 false)∧x=.exit 2∧ai=aE S r P) (by omega) ?_ ?_ (by omega) ⟨[],he,by simp,by simp,rfl⟩ ?_
 ·rintro i p e ai Y gn hm hi U _ aB hw ⟨P,⟨a8,dG,cV,di,hN,s2,cM⟩,eB,xw,rfl⟩ bW fl
  have av:=bI p hm
  have gj:=Ni U
  have jE:=Ao c1 c2 t p av (by omega)
  rw[(mZ h av).2.1]at jE
  have ij:=Vx false S (jT t p) (by omega)
  have tJ:=VS (h:=aE S r P) (o:=0) (L:=S) rfl cE
  have xW:=aoe (S:=S) (R:=r) (P:=P) (x:=p) (l9 (by omega) (by omega))
  generalize decide (jT t p∈S)=q at *
  cases q
  ·(repeat' first|simp only[TZ,IE,go_sem,a8,dG,cV,di,hN,s2,cM,aB,hw,gj,hi,jE,ij,tJ,UK,xW]|with_reducible first|refine aZ fun _=>?_|refine a1 ?_|fail)
   all_goals(refine bW _ _ ⟨P++[p],?_,fun y ar=>?_,by simp;omega,rfl⟩)
   ·simp only[go_sem,a8,dG,cV,di,s2,cM,hw,gT,vy]
   ·rcases hp.1 ar with ar|ar
    ·exact eB y ar
    ·simp only[kA]at ar;subst ar;exact av
  ·(repeat' first|simp only[TZ,IE,go_sem,a8,dG,cV,di,hN,s2,cM,aB,hw,gj,hi,jE,ij,tJ,UK]|with_reducible first|refine aZ fun _=>?_|refine a1 ?_|fail)
   all_goals(refine bW _ _ ⟨P,?_,eB,by omega,rfl⟩;simp only[go_sem,a8,dG,cV,di,s2,cM,hw])
 ·rintro e ai Y gn aB ⟨P,⟨a8,dG,cV,di,hN,s2,cM⟩,eB,xw,rfl⟩ fl
  simp only[TZ,IE,go_sem,a8,dG,cV,di,hN,s2,cM,aB,UK]
  all_goals(refine fl _ _ _ ⟨P,eB,by omega,?_,rfl,rfl⟩;simp only[go_sem,a8,dG,cV,s2,cM])
 ·rintro x e ai ⟨P,eB,xw,J,rfl,rfl⟩
  exact bk e P eB xw J
theorem ayF(w a:Nat)(aCy:w<256)(ae:a<256):∃ v,a0 Tryz.prog pol 64 [fY c1 c2 t,gi (w:Nat),gi (a:Nat)]=some v∧∃ r,v=fO false r∧yr t r∧r.length≤8:=by
 obtain⟨jy,jz,jA⟩:=mw h
 have bG:((t.nodes.toNat:Nat):Int)=t.nodes:=by omega
 have Oi:IntKind.i64.wrap ((a:Nat):Int)=((a:Nat):Int):=wrap_i64 (by omega) (by omega)
 have ww:IntKind.i64.wrap ((w:Nat):Int)=((w:Nat):Int):=wrap_i64 (by omega) (by omega)
 have oa:((w:Nat):Int).tmod t.nodes=((w % t.nodes.toNat:Nat):Int):=by rw[jZ (by omega),w5,bG]
 have aI:w % t.nodes.toNat<t.nodes.toNat:=mF _ (by omega)
 generalize w % t.nodes.toNat=f at *
 have cF:t.nodes≠0:=by omega
 have axw:a9.row 1 [ah.t (I ((f:Nat):Int))] 0=ev 1 I ([f].map eI):=rfl
 have Cv:a9.row 1 [] 0=ev 1 I (([]:List Nat).map eI):=rfl
 refine qX 2001 1 aqM (bH rfl) ?_
 simp only[MH,go_sem,ww,oa,cF,axw,Cv]
 refine Ad (St:=fun k e ai=>∃(S r:List Nat) (at_:Nat),(e 2=.t (gi (a:Nat))∧e 3=.t (.ip (dO c1 c2 t))∧e 7=.t (I (at_:Nat))∧e 8=.ms 0 (r.length+1) 0 (r.length+1) 1 false∧e 9=.ms 1 r.length 0 r.length 1 false)∧S.length=r.length+1∧r.length≤8∧k=8-r.length∧yr t r∧at_<t.nodes.toNat∧ai=aU S r)
  (Ex:=fun x e ai=>∃(S r P:List Nat),yr t r∧r.length≤8∧((x=.ret∧e 6=.ms 1 r.length 0 r.length 1 false∧ai=aE S r P)∨(x=.exit 0∧e 9=.ms 1 r.length 0 r.length 1 false∧ai=aU S r))) ?_ ?_ _ 8 _ _ (by omega) ?_
 ·rintro k e ai Y R ⟨S,r,at_,⟨s2,a8,dE,dG,cM⟩,cE,vX,an,av,iU,rfl⟩ bW bk
  obtain⟨si,aS⟩:=Ax h iU
  generalize rk:decide (((r.length:Nat):Int)<8)=a3
  have ZV:∃(S' qG P:List Nat),yr t qG∧qG.length≤8∧True:=⟨S,r,[],av,vX,trivial⟩
  cases a3
  ·(repeat' first|simp only[z5,wb,go_sem,s2,a8,dE,dG,cM,rk]|with_reducible first|refine aZ fun _=>?_|refine a1 ?_|fail)
   all_goals(refine bk _ _ _ ⟨S,r,[],av,vX,.inr ⟨rfl,?_,rfl⟩⟩;simp only[go_sem,cM])
  ·have aCi:=ka rk
   generalize h6:decide (((r.length:Nat):Int)=0)=a7
   have iJ:=av5 c1 c2 t at_ (by omega)
   have amm:∀ p∈yq t (at_:Nat),p<2*t.cd.length:=fun p av=>by
    simp only[yq,AT,vv]at av
    exact av.1
   have iG:(yq t (at_:Nat)).length≤48:=by
    unfold yq
    refine kP (AR _ _) ?_
    rw[Pc];omega
   generalize yq t (at_:Nat)=Q at *
   have w0:IntKind.i64.wrap (3*((r.length:Nat):Int))=((3*r.length:Nat):Int):=by rw[wrap_i64 (by omega) (by omega)];omega
   have cI:IntKind.i64.wrap (((a:Nat):Int)+((3*r.length:Nat):Int))=((a+3*r.length:Nat):Int):=by rw[wrap_i64 (by omega) (by omega)];omega
   have hf:=fun OA R e he bk=>ayG c1 c2 t h S r Q cE vX amm iG (gi (a:Nat)) OA 2001 (by omega) R e he bk
   generalize h9 t at_=b at *
   have done:a7=true∨b=false∨(a7=false∧b=true):=by cases a7<;>cases b<;>simp
   rcases done with rfl|rfl|⟨rfl,rfl⟩
   rotate_left
   ·cases a7
    all_goals((repeat' first|simp only[z5,wb,go_sem,s2,a8,dE,dG,cM,rk,h6,si,aS,iJ,bJ]|with_reducible first|refine aZ fun _=>?_|refine a1 ?_|fail))
    all_goals(with_reducible refine hf _ _ _ ?_ ?_ _ ?_)
    all_goals try(show _=aE _ _ _;rfl)
    all_goals first|(rintro bs P QQ xw ⟨cG,sN,pZ,b3,mx⟩)|(simp only[go_sem,s2,a8,dG,cM];done)|skip
    all_goals try(simp only[go_sem,s2,a8,dG,cM];exact⟨rfl,rfl⟩)
    all_goals by_cases af:P.length=0
    all_goals try(
     have xg:decide (((P.length:Nat):Int)=0)=true:=bY (by omega)
     simp only[z5,wb,go_sem,b3,cG,sN,mx,pZ,xg]
     refine bk _ _ _ ⟨S,r,P,av,vX,.inl ⟨rfl,?_,rfl⟩⟩
     simp only[go_sem,mx]
     done)
    all_goals(
     obtain⟨m,hm⟩:∃ m,m=(a+3*r.length) % P.length:=⟨_,rfl⟩
     have h5:m<P.length:=by rw[hm];exact mF _ (by omega)
     have xg:decide (((P.length:Nat):Int)=0)=false:=bA (by omega)
     have lZ:((a+3*r.length:Nat):Int).tmod ((P.length:Nat):Int)=(m:Nat):=by rw[jZ (by omega),hm,w5]
     have ft:((P.length:Nat):Int)≠0:=by omega
     obtain⟨p,ri⟩:∃ p,P[m]? = some p:=⟨_,fC h5⟩
     have qo:=QQ p (gp ri)
     have bx:Jp P.length m (some (ev 1 I (P.map eI)))=some (.t (I ((p:Nat):Int))):=by
      rw[ev,VK,a6 ⟨by omega,by omega,by simp⟩,eE,eE,eE,ri]
      rfl
     have jE:=Ao c1 c2 t p qo (by omega)
     have o4:=mZ h qo
     rw[o4.2.1]at jE
     have Vl:=ZZ (S:=S) (R:=r) (P:=P) (x:=p) (l9 (by omega) (by omega))
     have Vm:=fun R=>Z0 (S:=S) (R:=R) (P:=P) (x:=jT t p) cE (l9 (by omega) (by omega))
     (repeat' first|simp only[z5,wb,go_sem,b3,cG,sN,mx,pZ,Oi,w0,cI,xg,lZ,ft,h5,bx,jE,Vl,Vm,Bj]|with_reducible first|refine aZ fun _=>?_|refine a1 ?_|fail)
     refine bW (8-(r.length+1)) _ _ (by omega) ⟨S++[jT t p],r++[p],jT t p,?_,by simp[cE],by simp;omega,by simp,fun y ar=>?_,o4.2.2.2.1,rfl⟩
     ·simp only[go_sem,b3,cG,gT,vy]
     ·rcases hp.1 ar with ar|ar
      ·exact av y ar
      ·simp only[kA]at ar;subst ar;exact qo)
   ·(repeat' first|simp only[z5,wb,go_sem,s2,a8,dE,dG,cM,rk,h6,si,aS,bJ]|with_reducible first|refine aZ fun _=>?_|refine a1 ?_|fail)
    all_goals(refine bk _ _ _ ⟨S,r,[],av,vX,.inr ⟨rfl,?_,rfl⟩⟩;simp only[go_sem,cM])
   ·cases b
    all_goals((repeat' first|simp only[z5,wb,go_sem,s2,a8,dE,dG,cM,rk,h6,si,aS,iJ,bJ]|with_reducible first|refine aZ fun _=>?_|refine a1 ?_|fail))
    all_goals(with_reducible refine hf _ _ _ ?_ ?_ _ ?_)
    all_goals try(show _=aE _ _ _;rfl)
    all_goals first|(rintro bs P QQ xw ⟨cG,sN,pZ,b3,mx⟩)|(simp only[go_sem,s2,a8,dG,cM];done)|skip
    all_goals try(simp only[go_sem,s2,a8,dG,cM];exact⟨rfl,rfl⟩)
    all_goals by_cases af:P.length=0
    all_goals try(
     have xg:decide (((P.length:Nat):Int)=0)=true:=bY (by omega)
     simp only[z5,wb,go_sem,b3,cG,sN,mx,pZ,xg]
     refine bk _ _ _ ⟨S,r,P,av,vX,.inl ⟨rfl,?_,rfl⟩⟩
     simp only[go_sem,mx]
     done)
    all_goals(
     obtain⟨m,hm⟩:∃ m,m=(a+3*r.length) % P.length:=⟨_,rfl⟩
     have h5:m<P.length:=by rw[hm];exact mF _ (by omega)
     have xg:decide (((P.length:Nat):Int)=0)=false:=bA (by omega)
     have lZ:((a+3*r.length:Nat):Int).tmod ((P.length:Nat):Int)=(m:Nat):=by rw[jZ (by omega),hm,w5]
     have ft:((P.length:Nat):Int)≠0:=by omega
     obtain⟨p,ri⟩:∃ p,P[m]? = some p:=⟨_,fC h5⟩
     have qo:=QQ p (gp ri)
     have bx:Jp P.length m (some (ev 1 I (P.map eI)))=some (.t (I ((p:Nat):Int))):=by
      rw[ev,VK,a6 ⟨by omega,by omega,by simp⟩,eE,eE,eE,ri]
      rfl
     have jE:=Ao c1 c2 t p qo (by omega)
     have o4:=mZ h qo
     rw[o4.2.1]at jE
     have Vl:=ZZ (S:=S) (R:=r) (P:=P) (x:=p) (l9 (by omega) (by omega))
     have Vm:=fun R=>Z0 (S:=S) (R:=R) (P:=P) (x:=jT t p) cE (l9 (by omega) (by omega))
     (repeat' first|simp only[z5,wb,go_sem,b3,cG,sN,mx,pZ,Oi,w0,cI,xg,lZ,ft,h5,bx,jE,Vl,Vm,Bj]|with_reducible first|refine aZ fun _=>?_|refine a1 ?_|fail)
     refine bW (8-(r.length+1)) _ _ (by omega) ⟨S++[jT t p],r++[p],jT t p,?_,by simp[cE],by simp;omega,by simp,fun y ar=>?_,o4.2.2.2.1,rfl⟩
     ·simp only[go_sem,b3,cG,gT,vy]
     ·rcases hp.1 ar with ar|ar
      ·exact av y ar
      ·simp only[kA]at ar;subst ar;exact qo)
 ·rintro x e ai ⟨S,r,P,av,vX,⟨rfl,fQ,rfl⟩|⟨rfl,vO,rfl⟩⟩
  ·have tJ:=VS (h:=aE S r P) (o:=1) (L:=r) (n:=r.length) rfl rfl
   simp only[MH,go_sem,fQ,Bg,tJ]
   exact⟨_,rfl,r,rfl,av,vX⟩
  ·have tJ:=VS (h:=aU S r) (o:=1) (L:=r) (n:=r.length) rfl rfl
   simp only[MH,go_sem,vO,Bg,tJ]
   exact⟨_,rfl,r,rfl,av,vX⟩
 ·refine⟨[f],[],f,?_,rfl,by simp,rfl,fun p av=>by simp at av,aI,rfl⟩
  simp only[go_sem]
  all_goals trivial
end
theorem acH(x a b:Int):a0 Tryz.prog pol 68 [I x,I a,I b]=some (B (decide (a≤x) && decide (x≤b))):=by
 generalize aF:decide (a≤x)=d
 generalize aE:decide (x≤b)=q
 refine cK 1 1 aqP (bH rfl) ?_
 cases d
 ·simp only[T3,go_sem,aF]
 ·simp only[T3,go_sem,aF,aE]
structure X7(t:bR)(r:List Nat):Prop where
 rt:hS t r
 b:h9 t (pF t r)=true
 e:h9 t (nQ t r)=true
section
variable(c1 c2:Bool)(t:bR)(h:g0 t=true)
include h
omit h in
theorem NI{r:List Nat}(al:hS t r):∃ qE cP,r[0]? = some qE∧r[r.length-1]? = some cP∧pF t r=lN t qE∧nQ t r=jT t cP∧qE<2*t.cd.length∧cP<2*t.cd.length:=by
 have bo:=al.eh
 have gV:r[0]? = some r[0]:=fC (by omega)
 have cg:r[r.length-1]? = some r[r.length-1]:=fC (by omega)
 exact⟨_,_,gV,cg,by unfold pF;rw[gV];rfl,by unfold nQ;rw[cg];rfl,al.p _ (oP _),al.p _ (oP _)⟩
theorem aeQ(n:Nat)(aw:n<t.nodes.toNat):a0 Tryz.prog pol 69 [fY c1 c2 t,I (n:Nat)]=some (B (h9 t n)):=by
 obtain⟨jy,jz,jA⟩:=mw h
 have w:IntKind.i64.wrap (t.nodes-1)=t.nodes-1:=wrap_i64 (by omega) (by omega)
 have bB:=acH (n:Nat) 0 (t.nodes-1)
 rw[bY (by omega),bY (by omega)]at bB
 obtain⟨g,ay⟩:=Ax h aw
 refine cK 1 1 aqQ (bH rfl) ?_
 (repeat' first|simp only[aca,go_sem,w,bB,g,ay,bJ]|with_reducible first|refine aZ fun _=>?_|refine a1 ?_|fail)
theorem X8(n w:Nat)(aw:n<256)(hw:w<256):∃ v,a0 Tryz.prog pol 39 [fY c1 c2 t,gi (n:Nat),gi (w:Nat)]=some v∧(v=.aA (.slice none 0 0)∨∃ r,v=fO false r∧X7 t r):=by
 obtain⟨jy,jz,jA⟩:=mw h
 refine qX 200 1 aqk (bH rfl) ?_
 simp only[Mr,go_sem]
 refine hA (List.replicate 16 ()) (fun _=>.aA (.bool true)) (St:=fun i e ai=>(e 1=.t (gi (n:Nat))∧e 2=.t (gi (w:Nat))∧e 3=.t (.ip (dO c1 c2 t))∧e 7=.t (I (i:Nat)))∧ai=[])
  (Ex:=fun x e ai=>(x=.ret∧∃ r,e 6=.t (fO false r)∧X7 t r)∨(x=.exit 0)) (by simp) ?_ ?_ (by simp) ?_ ?_
 ·rintro i x e ai Y R hm hi U _ aB je ⟨⟨s1,s2,a8,dE⟩,rfl⟩ bW bk
  rw[ic]at hi
  have k0:decide (((i:Nat):Int)<16)=true:=bY (by omega)
  have wU:IntKind.u8.wrap ((i:Nat):Int)=((i:Nat):Int):=by rw[wrap_u8];omega
  have wV:IntKind.u8.wrap (((w:Nat):Int)+((i:Nat):Int))=(((w+i) % 256:Nat):Int):=by rw[wrap_u8];omega
  obtain⟨_,bB,r,rfl,av,aCd⟩:=ayF c1 c2 t h n ((w+i) % 256) aw (mF _ (by omega))
  obtain⟨_,aO,b,rfl,ab⟩:=ad9 c1 c2 t h false r av (by omega)
  have cx:=rI r
  generalize (w+i) % 256=w' at *
  generalize aE:decide ((0:Int)<((r.length:Nat):Int))=q
  cases q
  ·(repeat' first|simp only[Ey,z2,go_sem,s1,s2,a8,dE,k0,je,wU,wV,bB,cx,aE]|with_reducible first|refine aZ fun _=>?_|refine a1 ?_|fail)
   all_goals(refine bW _ _ ⟨?_,rfl⟩;simp only[go_sem,s1,s2,a8,je])
  ·cases b
   ·(repeat' first|simp only[Ey,z2,go_sem,s1,s2,a8,dE,k0,je,wU,wV,bB,cx,aE,aO]|with_reducible first|refine aZ fun _=>?_|refine a1 ?_|fail)
    all_goals(refine bW _ _ ⟨?_,rfl⟩;simp only[go_sem,s1,s2,a8,je])
   ·have gC:=ab rfl
    obtain⟨qE,cP,gV,cg,e7,aT,pQ,nk⟩:=NI t gC
    have vN:=pe gV
    have tm:=pe cg
    have oz:=E5 c1 c2 t qE pQ (by omega)
    have jE:=Ao c1 c2 t cP nk (by omega)
    rw[(mZ h pQ).1]at oz
    rw[(mZ h nk).2.1]at jE
    obtain⟨K8,Eh⟩:=Ax h (mZ h pQ).2.2.1
    obtain⟨QC,HB⟩:=Ax h (mZ h nk).2.2.2.1
    rw[← e7]at oz K8 Eh
    rw[← aT]at jE QC HB
    have k1:0<r.length:=gC.eh
    have lQ:r.length-1<r.length:=by omega
    have wl:IntKind.i64.wrap (((r.length:Nat):Int)-1)=((r.length-1:Nat):Int):=by rw[wrap_i64 (by omega) (by omega)];omega
    generalize xX:h9 t (pF t r)=Cr at *
    generalize zL:h9 t (nQ t r)=Cs at *
    cases Cr
    ·(repeat' first|simp only[Ey,z2,go_sem,s1,s2,a8,dE,k0,je,wU,wV,bB,cx,aE,aO,vN,oz,K8,Eh,k1,bJ]|with_reducible first|refine aZ fun _=>?_|refine a1 ?_|fail)
     all_goals(refine bW _ _ ⟨?_,rfl⟩;simp only[go_sem,s1,s2,a8,je])
    ·cases Cs
     ·(repeat' first|simp only[Ey,z2,go_sem,s1,s2,a8,dE,k0,je,wU,wV,bB,cx,aE,aO,vN,oz,K8,Eh,k1,tm,jE,QC,HB,lQ,wl,bJ]|with_reducible first|refine aZ fun _=>?_|refine a1 ?_|fail)
      all_goals(refine bW _ _ ⟨?_,rfl⟩;simp only[go_sem,s1,s2,a8,je])
     ·(repeat' first|simp only[Ey,z2,go_sem,s1,s2,a8,dE,k0,je,wU,wV,bB,cx,aE,aO,vN,oz,K8,Eh,k1,tm,jE,QC,HB,lQ,wl,bJ]|with_reducible first|refine aZ fun _=>?_|refine a1 ?_|fail)
      all_goals(refine bk _ _ _ (.inl ⟨rfl,r,?_,⟨gC,xX,zL⟩⟩);simp only[go_sem])
 ·rintro e ai Y R aB ⟨⟨s1,s2,a8,dE⟩,rfl⟩ bk
  rw[ic]at dE
  have axK:e 7=.t (I 16):=dE
  simp only[Ey,z2,go_sem,s1,s2,a8,axK]
  all_goals exact bk _ _ _ (.inr rfl)
 ·refine⟨?_,rfl⟩
  simp only[go_sem]
 ·rintro x e ai (⟨rfl,r,fQ,ck⟩|rfl)
  ·simp only[Mr,go_sem,fQ,lh]
   all_goals exact .inr ⟨r,rfl,ck⟩
  ·simp only[Mr,go_sem,lh]
   all_goals exact .inl rfl
end
theorem EL(x a b:Int)(h:a≤x∧x≤b):a0 Tryz.prog pol 68 [I x,I a,I b]=some (B true):=by
 rw[acH,bY h.1,bY h.2];rfl
structure V1(t:bR)(s:dg):Prop where
 id:1≤s.id∧s.id≤4095
 ew:s.ew<t.nodes.toNat
 ls:s.ls<t.nodes.toNat
 gO:84≤s.gO∧s.gO≤1542
 dl:1≤s.dl∧s.dl≤1099511627776
 iR:s.cls=7∧(1≤s.aK∧s.aK≤240)∧s.kC=0∧s.rK=0∨s.cls=6∧s.aK=0∧(s.gO≤s.kC∧s.kC≤1048576)∧1≤s.rK∧s.rK≤2097152
 rt:∀ r∈s.dv,hS t r
 qI:(∃ a,s.dv=[a])∨∃ a b,s.dv=[a,b]
section
variable(c1 c2:Bool)(t:bR)(h:g0 t=true)(s:dg)(J:V1 t s)
include h J
theorem axn(fT:eY)(aR:Nat)(aw:100<aR)(R:cW→aM→aj→Prop)(e:aM)(he:e 2=.t (.ip (dO c1 c2 t))∧e 3=.t (.ip (h8 s))∧e 5=.t (I 0))
  (xy:∀ e,e 4=.t (B false)→R .ret e []) (Bm:(∀ r∈s.dv,hS t r∧pF t r=s.ew∧nQ t r=s.ls)→∀ e,(e 2=.t (.ip (dO c1 c2 t))∧e 3=.t (.ip (h8 s)))→R (.exit 1) e []) :
  gP 0 (some [2,3,5]) (c6 Tryz.prog pol (a0 Tryz.prog pol) fT aR 43 TC) R aR e []:=by
 obtain⟨jy,jz,jA⟩:=mw h
 have jo:s.dv.length≤2:=by rcases J.qI with⟨a,e⟩|⟨a,b,e⟩<;>rw[e]<;>simp
 refine hA s.dv (fO s.n5) (St:=fun i e ai=>(e 2=.t (.ip (dO c1 c2 t))∧e 3=.t (.ip (h8 s))∧e 5=.t (I (i:Nat)))∧ai=[]∧∀ j r,j<i→s.dv[j]? = some r→hS t r∧pF t r=s.ew∧nQ t r=s.ls)
  (Ex:=fun x e ai=>(x=.ret∧e 4=.t (B false)∧ai=[])∨(x=.exit 1∧(∀ r∈s.dv,hS t r∧pF t r=s.ew∧nQ t r=s.ls)∧(e 2=.t (.ip (dO c1 c2 t))∧e 3=.t (.ip (h8 s)))∧ai=[])) (by omega) ?_ ?_ (by omega) ⟨he,rfl,fun j r aU=>by omega⟩ ?_
 ·rintro i r e ai Y gn hm hi U bx aB hw ⟨⟨s2,a8,bC⟩,rfl,fg⟩ bW fl
  have gC:=J.rt r hm
  have fA:=gC.cx
  have kl:=gC.eh
  obtain⟨_,aO,b,rfl,ab⟩:=ad9 c1 c2 t h s.n5 r gC.p (by omega)
  have cx:=rI r
  obtain⟨qE,cP,gV,cg,e7,aT,pQ,nk⟩:=NI t gC
  have vN:=pe gV
  have tm:=pe cg
  have oz:=E5 c1 c2 t qE pQ (by omega)
  have jE:=Ao c1 c2 t cP nk (by omega)
  rw[(mZ h pQ).1,← e7]at oz
  rw[(mZ h nk).2.1,← aT]at jE
  have k1:0<r.length:=gC.eh
  have lQ:r.length-1<r.length:=by omega
  have wl:IntKind.i64.wrap (((r.length:Nat):Int)-1)=((r.length-1:Nat):Int):=by rw[wrap_i64 (by omega) (by omega)];omega
  generalize xX:decide (((pF t r:Nat):Int)=((s.ew:Nat):Int))=Cr
  generalize zL:decide (((nQ t r:Nat):Int)=((s.ls:Nat):Int))=Cs
  have step:Cr=true→Cs=true→∀ j r,j<i+1→s.dv[j]? = some r→hS t r∧pF t r=s.ew∧nQ t r=s.ls:=fun gH Bd j qG aU su=>by
   by_cases xK:j=i
   ·subst xK
    rw[U]at su;cases su
    subst gH Bd
    have a:=ka xX
    have b:=ka zL
    exact⟨gC,by omega,by omega⟩
   ·exact fg j qG (by omega) su
  cases b
  ·(repeat' first|simp only[Ix,B2,go_sem,s2,a8,bC,aB,hw,bx,hi,aO,bJ]|with_reducible first|refine aZ fun _=>?_|refine a1 ?_|fail)
   all_goals(refine fl _ _ _ (.inl ⟨rfl,?_,rfl⟩);simp only[go_sem])
  ·cases Cr
   ·(repeat' first|simp only[Ix,B2,go_sem,s2,a8,bC,aB,hw,bx,hi,aO,vN,oz,xX,k1,cx,bJ]|with_reducible first|refine aZ fun _=>?_|refine a1 ?_|fail)
    all_goals(refine fl _ _ _ (.inl ⟨rfl,?_,rfl⟩);simp only[go_sem])
   ·cases Cs
    ·(repeat' first|simp only[Ix,B2,go_sem,s2,a8,bC,aB,hw,bx,hi,aO,vN,oz,xX,k1,cx,tm,jE,zL,lQ,wl,bJ]|with_reducible first|refine aZ fun _=>?_|refine a1 ?_|fail)
     all_goals(refine fl _ _ _ (.inl ⟨rfl,?_,rfl⟩);simp only[go_sem])
    ·(repeat' first|simp only[Ix,B2,go_sem,s2,a8,bC,aB,hw,bx,hi,aO,vN,oz,xX,k1,cx,tm,jE,zL,lQ,wl,bJ]|with_reducible first|refine aZ fun _=>?_|refine a1 ?_|fail)
     all_goals(refine bW _ _ ⟨?_,rfl,step rfl rfl⟩;simp only[go_sem,s2,a8,hw])
 ·rintro e ai Y gn aB ⟨⟨s2,a8,bC⟩,rfl,fg⟩ fl
  simp only[Ix,B2,go_sem,s2,a8,bC,aB,bJ]
  all_goals(refine fl _ _ _ (.inr ⟨rfl,fun r al=>?_,?_,rfl⟩))
  ·obtain⟨j,aU⟩:=w6.1 al
   exact fg j r (cD.1 aU).1 aU
  ·simp only[go_sem,s2,a8]
 ·rintro x e ai (⟨rfl,bL,rfl⟩|⟨rfl,ie,gl,rfl⟩)
  ·exact xy e bL
  ·exact Bm ie e gl
theorem WK:∃ v,a0 Tryz.prog pol 43 [fY c1 c2 t,ek s]=some v∧∃ b,v=B b∧(b=true→iM t s):=by
 obtain⟨jy,jz,jA⟩:=mw h
 have bB:=EL s.id 1 4095 J.id
 have aO:=EL s.gO 84 1542 J.gO
 have ed:=EL s.dl 1 1099511627776 J.dl
 have gb:=aeQ c1 c2 t h s.ew J.ew
 have lT:=aeQ c1 c2 t h s.ls J.ls
 generalize xX:h9 t s.ew=Cr at *
 generalize zL:h9 t s.ls=Cs at *
 generalize Ee:decide (((s.ew:Nat):Int)=((s.ls:Nat):Int))=ad2
 have RG:=fun fT R e he xy Bm=>axn c1 c2 t h s J fT 200 (by omega) R e he xy Bm
 have jo:1≤s.dv.length∧s.dv.length≤2:=by rcases J.qI with⟨a,e⟩|⟨a,b,e⟩<;>rw[e]<;>simp
 have d1:decide (((s.dv.length:Nat):Int)<1)=false:=bA (by omega)
 have d2:decide ((2:Int)<((s.dv.length:Nat):Int))=false:=bA (by omega)
 refine qX 200 1 aqo (bH rfl) ?_
 have aS:Cr=true→Cs=true→ad2=false→(∀ r∈s.dv,hS t r∧pF t r=s.ew∧nQ t r=s.ls)→((∃ a,s.dv=[a])∨∃ a b,s.dv=[a,b]∧Gr t a b)→iM t s:=fun aT aW bw cB bZ=>by
  subst aT aW bw
  exact⟨J.id,⟨J.ew,xX⟩,⟨J.ls,zL⟩,by have:=r1 Ee;omega,J.gO,J.dl,J.iR,cB,bZ⟩
 cases Cr
 ·(repeat' first|simp only[tH,go_sem,bB,gb,lh]|with_reducible first|refine aZ fun _=>?_|refine a1 ?_|fail)
  all_goals exact⟨false,rfl,fun ab=>by cases ab⟩
 ·cases Cs
  ·(repeat' first|simp only[tH,go_sem,bB,gb,lT,lh]|with_reducible first|refine aZ fun _=>?_|refine a1 ?_|fail)
   all_goals exact⟨false,rfl,fun ab=>by cases ab⟩
  ·cases ad2
   ·have aS:=aS rfl rfl rfl
    obtain⟨id,ew,ls,cls,gO,aK,kC,rK,dl,dv,mK,n5⟩:=s
    have dx:=J.iR
    simp only at bB aO ed gb lT xX zL Ee d1 d2 jo dx RG
    rcases dx with⟨c,p,b,r⟩|⟨c,p,b,r⟩
    ·have qv:=EL aK 1 240 p
     subst c b r
     (repeat' first|simp only[tH,go_sem,bB,aO,ed,gb,lT,qv,Ee,d1,d2,bJ]|with_reducible first|refine aZ fun _=>?_|refine a1 ?_|fail)
     with_reducible refine RG _ _ _ ?_ ?_ ?_
     ·simp only[go_sem]
     ·intro e bL
      simp only[tH,go_sem,bL,lh]
      all_goals exact⟨false,rfl,fun ab=>by cases ab⟩
     ·rintro ie e ⟨s2,a8⟩
      rcases J.qI with⟨a,aT⟩|⟨a,b,aT⟩
      ·simp only at aT
       subst aT
       (repeat' first|simp only[tH,go_sem,s2,a8,lh]|with_reducible first|refine aZ fun _=>?_|refine a1 ?_|fail)
       all_goals exact⟨true,rfl,fun _=>aS ie (.inl ⟨a,rfl⟩)⟩
      ·simp only at aT
       subst aT
       obtain⟨_,qw,bS,rfl,cS⟩:=Vv c1 c2 t h n5 n5 a b (J.rt a (by simp)) (J.rt b (by simp))
       (repeat' first|simp only[tH,go_sem,s2,a8,qw,lh]|with_reducible first|refine aZ fun _=>?_|refine a1 ?_|fail)
       all_goals exact⟨bS,rfl,fun e=>aS ie (.inr ⟨a,b,rfl,cS e⟩)⟩
    ·have qv:=EL kC gO 1048576 b
     have u0:=EL rK 1 2097152 r
     subst c p
     (repeat' first|simp only[tH,go_sem,bB,aO,ed,gb,lT,qv,u0,Ee,d1,d2,bJ]|with_reducible first|refine aZ fun _=>?_|refine a1 ?_|fail)
     with_reducible refine RG _ _ _ ?_ ?_ ?_
     ·simp only[go_sem]
     ·intro e bL
      simp only[tH,go_sem,bL,lh]
      all_goals exact⟨false,rfl,fun ab=>by cases ab⟩
     ·rintro ie e ⟨s2,a8⟩
      rcases J.qI with⟨a,aT⟩|⟨a,b,aT⟩
      ·simp only at aT
       subst aT
       (repeat' first|simp only[tH,go_sem,s2,a8,lh]|with_reducible first|refine aZ fun _=>?_|refine a1 ?_|fail)
       all_goals exact⟨true,rfl,fun _=>aS ie (.inl ⟨a,rfl⟩)⟩
      ·simp only at aT
       subst aT
       obtain⟨_,qw,bS,rfl,cS⟩:=Vv c1 c2 t h n5 n5 a b (J.rt a (by simp)) (J.rt b (by simp))
       (repeat' first|simp only[tH,go_sem,s2,a8,qw,lh]|with_reducible first|refine aZ fun _=>?_|refine a1 ?_|fail)
       all_goals exact⟨bS,rfl,fun e=>aS ie (.inr ⟨a,b,rfl,cS e⟩)⟩
   ·(repeat' first|simp only[tH,go_sem,bB,gb,lT,Ee,lh]|with_reducible first|refine aZ fun _=>?_|refine a1 ?_|fail)
    all_goals exact⟨false,rfl,fun ab=>by cases ab⟩
end
structure D2 where
 VJ:Bool
 ae8:Bool
 eU:Nat
 wW:Nat
 gO:Nat
 pd:Nat
 kC:Nat
 rt:Nat
abbrev agf(n:Int):T:=.aA (.int .u16 n)
abbrev GM(d:D2):List T:=[B d.VJ,B d.ae8,gi (d.eU:Nat),gi (d.wW:Nat),gi (d.gO:Nat),gi (d.pd:Nat),gi (d.kC:Nat),agf (d.rt:Nat)]
abbrev zp(d:D2):T:=.agg (GM d)
structure GN(d:D2):Prop where
 eU:d.eU<256
 wW:d.wW<256
 gO:d.gO<256
 pd:d.pd<256
 kC:d.kC<256
 rt:d.rt<65536
theorem CI:mX Tryz.prog 104=true:=by kernel_rfl
theorem aef{t:bR}{r:List Nat}(al:hS t r)(f:Bool)(neg:Bool)(ty:TypeId)(ik il:Operand):nc Tryz.prog neg ty ik il (.t (fO f r)) (.t (.aA (.slice none 0 0)))=CJ neg false (mX Tryz.prog ty):=by
 have:=al.eh
 cases r with
 | nil=>simp at this
 | cons p r=>exact Xo
abbrev vq:T:=.agg [I 0,I 0,I 0,I 0,I 0,I 0,I 0,I 0,I 0,.aA (.slice none 0 0)]
section
variable(c1 c2:Bool)(t:bR)(h:g0 t=true)(d:D2)(aF:GN d)
include h aF
theorem aeV(bE:dg)(BM:bE.n5=false)(RE:bE.ls<100)(r:List Nat)(al:hS t r)(n:Nat)(aw:n<12)(fT:eY)(aR:Nat)(jn:100<aR)(R:cW→aM→aj→Prop)(e:aM)
  (he:e 3=.t (.ip (GM d))∧e 4=.t (.ip (dO c1 c2 t))∧e 6=.ref 0 1 0 0∧e 8=.t (I (n:Nat))∧e 10=.t (fO false r)∧e 11=.ref 1 1 0 0∧e 12=.t (I 0))
  (bk:∀ e rs c,(rs=[r]∨∃ o,rs=[r,o]∧hS t o)→(e 4=.t (.ip (dO c1 c2 t))∧e 6=.ref 0 1 0 0∧e 11=.ref 1 1 0 0)→R (.exit 2) e [.row 10 [.t vq] 0,.row 10 [.t (ek { bE with dv:=rs,mK:=c })] 1]) :
  gP 2 (some [3,4,6,8,10,11,12]) (c6 Tryz.prog pol (a0 Tryz.prog pol) fT aR 19 S6) R aR e [.row 10 [.t vq] 0,.row 10 [.t (ek { bE with dv:=[r],mK:=true })] 1]:=by
 obtain⟨jy,jz,jA⟩:=mw h
 have aae:=aF.wW
 refine Ad (St:=fun k e ai=>∃(i:Nat) (rs:List (List Nat)) (c:Bool),(e 3=.t (.ip (GM d))∧e 4=.t (.ip (dO c1 c2 t))∧e 6=.ref 0 1 0 0∧e 8=.t (I (n:Nat))∧e 10=.t (fO false r)∧e 11=.ref 1 1 0 0∧e 12=.t (I (i:Nat)))∧i+k=50∧((rs=[r]∧c=true)∨∃ o,rs=[r,o]∧hS t o)∧ai=[.row 10 [.t vq] 0,.row 10 [.t (ek { bE with dv:=rs,mK:=c })] 1])
  (Ex:=fun x e ai=>∃ rs c,x=.exit 2∧(rs=[r]∨∃ o,rs=[r,o]∧hS t o)∧(e 4=.t (.ip (dO c1 c2 t))∧e 6=.ref 0 1 0 0∧e 11=.ref 1 1 0 0)∧ai=[.row 10 [.t vq] 0,.row 10 [.t (ek { bE with dv:=rs,mK:=c })] 1]) ?_ ?_ _ 50 _ _ (by omega) ⟨0,[r],true,he,by omega,.inl ⟨rfl,rfl⟩,rfl⟩
 ·rintro k e ai Y gn ⟨i,rs,c,⟨a8,cY,bt,dG,cV,di,hN⟩,xJ,hh,rfl⟩ bW fl
  obtain⟨id,ew,ls,cls,gO,aK,kC,rK,dl,aDc,aBF,n5⟩:=bE
  simp only at BM RE bW fl ⊢
  subst BM
  unfold vq at *
  have R3:rs=[r]∨∃ o,rs=[r,o]∧hS t o:=by
   rcases hh with⟨e,_⟩|e
   ·exact .inl e
   ·exact .inr e
  generalize aE:decide (((i:Nat):Int)<24)=q
  cases q
  ·simp only[BZ,x3,go_sem,a8,cY,bt,dG,cV,di,hN,aE]
   all_goals(refine fl _ _ _ ⟨rs,c,rfl,R3,?_,rfl⟩;simp only[go_sem,cY,bt,di])
  ·have hi:=ka aE
   have hw:IntKind.i64.wrap ((i:Nat)+1:Int)=((i+1:Nat):Int):=wrap_i64 (by omega) (by omega)
   cases El:d.ae8
   ·simp only[BZ,x3,go_sem,a8,cY,bt,dG,cV,di,hN,aE,El]
    all_goals(refine fl _ _ _ ⟨rs,c,rfl,R3,?_,rfl⟩;simp only[go_sem,cY,bt,di])
   ·rcases hh with⟨rfl,rfl⟩|⟨o,rfl,aC⟩
    ·have wU:IntKind.u8.wrap ((i:Nat):Int)=((i:Nat):Int):=by rw[wrap_u8];omega
     have wV:IntKind.u8.wrap (((d.wW:Nat):Int)+((i:Nat):Int))=(((d.wW+i) % 256:Nat):Int):=by rw[wrap_u8];omega
     have Ok:IntKind.u8.wrap ((n:Nat):Int)=((n:Nat):Int):=by rw[wrap_u8];omega
     obtain⟨_,Aa,az⟩:=X8 c1 c2 t h n ((d.wW+i) % 256) (by omega) (mF _ (by omega))
     generalize (d.wW+i) % 256=w' at *
     rcases az with rfl|⟨o,rfl,aC⟩
     ·(repeat' first|simp only[BZ,x3,go_sem,a8,cY,bt,dG,cV,di,hN,aE,El,hw,wU,wV,Ok,Aa,CI]|with_reducible first|refine aZ fun _=>?_|refine a1 ?_|fail)
      all_goals(refine bW (k-1) _ _ (by omega) ⟨i+1,[r],true,?_,by omega,.inl ⟨rfl,rfl⟩,rfl⟩;simp only[go_sem,a8,cY,bt,dG,cV,di,hw])
     ·have gC:=aC.rt
      have kn:=aef gC
      obtain⟨qE,cP,gV,cg,e7,aT,pQ,nk⟩:=NI t gC
      have cx:=rI o
      have tm:=pe cg
      have jE:=Ao c1 c2 t cP nk (by omega)
      rw[(mZ h nk).2.1,← aT]at jE
      have aCl:=gC.eh
      have aCm:=gC.cx
      have lQ:o.length-1<o.length:=by omega
      have wl:IntKind.i64.wrap (((o.length:Nat):Int)-1)=((o.length-1:Nat):Int):=by rw[wrap_i64 (by omega) (by omega)];omega
      obtain⟨_,MZ,b,rfl,ab⟩:=Vv c1 c2 t h false false r o al gC
      have fr:48≤eQ:=by unfold eQ;omega
      generalize h6:decide (((nQ t o:Nat):Int)=((ls:Nat):Int))=a7
      cases a7
      ·(repeat' first|simp only[BZ,x3,go_sem,a8,cY,bt,dG,cV,di,hN,aE,El,hw,wU,wV,Ok,Aa,CI,kn,tm,jE,lQ,wl,cx,h6]|with_reducible first|refine aZ fun _=>?_|refine a1 ?_|fail)
       all_goals(refine bW (k-1) _ _ (by omega) ⟨i+1,[r],true,?_,by omega,.inl ⟨rfl,rfl⟩,rfl⟩;simp only[go_sem,a8,cY,bt,dG,cV,di,hw])
      ·cases b
       ·(repeat' first|simp only[BZ,x3,go_sem,a8,cY,bt,dG,cV,di,hN,aE,El,hw,wU,wV,Ok,Aa,CI,kn,tm,jE,lQ,wl,cx,h6,MZ]|with_reducible first|refine aZ fun _=>?_|refine a1 ?_|fail)
        all_goals(refine bW (k-1) _ _ (by omega) ⟨i+1,[r],true,?_,by omega,.inl ⟨rfl,rfl⟩,rfl⟩;simp only[go_sem,a8,cY,bt,dG,cV,di,hw])
       ·have fm:∀ m:Nat,dk [a9.row 10 [ah.t (T.agg [I 0,I 0,I 0,I 0,I 0,I 0,I 0,I 0,I 0,.aA (.slice none 0 0)])] 0,.row 10 [.agg [.t (I id),.t (I (ew:Nat)),.t (I (ls:Nat)),.t (I cls),.t (I gO),.t (I aK),.t (I kC),.t (I rK),.t (I dl),.ms 2 2 0 2 1 false]] m,.row 1 [.t (fO false r),.t (fO false o)] 0] (bV 2) (.row 10 [.agg [.t (I id),.t (I (ew:Nat)),.t (I (ls:Nat)),.t (I cls),.t (I gO),.t (I aK),.t (I kC),.t (I rK),.t (I dl),.ms 2 2 0 2 1 false]] m)=some (.row 10 [.t (.agg [I id,I (ew:Nat),I (ls:Nat),I cls,I gO,I aK,I kC,I rK,I dl,.aP false 1 [fO false r,fO false o]])] m):=fun m=>rfl
        (repeat' first|simp only[BZ,x3,go_sem,a8,cY,bt,dG,cV,di,hN,aE,El,hw,wU,wV,Ok,Aa,CI,kn,tm,jE,lQ,wl,cx,h6,MZ,fr,fm]|with_reducible first|refine aZ fun _=>?_|refine a1 ?_|fail)
        all_goals(refine bW (k-1) _ _ (by omega) ⟨i+1,[r,o],false,?_,by omega,.inr ⟨o,rfl,gC⟩,rfl⟩;simp only[go_sem,a8,cY,bt,dG,cV,di,hw])
    ·simp only[BZ,x3,go_sem,a8,cY,bt,dG,cV,di,hN,aE,El]
     all_goals(refine fl _ _ _ ⟨[r,o],c,rfl,R3,?_,rfl⟩;simp only[go_sem,cY,bt,di])
 ·rintro x e ai ⟨rs,c,rfl,hh,J,rfl⟩
  exact bk e rs c hh J
end
section
variable(c1 c2:Bool)(t:bR)(h:g0 t=true)(d:D2)(aF:GN d)(id:Int)(Rx:1≤id∧id≤6)
include h aF Rx
theorem af8:∃ v,a0 Tryz.prog pol 19 [zp d,fY c1 c2 t,I id]=some v∧((v=.ch [vq,B false])∨∃ s b,v=.ch [ek s,B b]∧s.id=id∧(b=true→iM t s)):=by
 obtain⟨jy,jz,jA⟩:=mw h
 have bG:((t.nodes.toNat:Nat):Int)=t.nodes:=by omega
 have km:=aF.eU
 have aae:=aF.wW
 have wn:IntKind.i64.wrap ((d.eU:Nat):Int)=((d.eU:Nat):Int):=wrap_i64 (by omega) (by omega)
 have azD:((d.eU:Nat):Int).tmod t.nodes=((d.eU % t.nodes.toNat:Nat):Int):=by rw[jZ (by omega),w5,bG]
 have aI:d.eU % t.nodes.toNat<t.nodes.toNat:=mF _ (by omega)
 have cF:t.nodes≠0:=by omega
 refine qX 2001 1 apQ (bH rfl) ?_
 simp only[BY,go_sem,wn,azD,cF]
 generalize d.eU % t.nodes.toNat=f at *
 refine Ad (St:=fun k e ai=>∃ n i:Nat,(e 2=.t (I id)∧e 3=.t (.ip (GM d))∧e 4=.t (.ip (dO c1 c2 t))∧e 6=.ref 0 1 0 0∧e 8=.t (I (n:Nat))∧e 9=.t (I (i:Nat)))∧ai=[.row 10 [.t vq] 0]∧n<t.nodes.toNat∧i+k=100)
  (Ex:=fun x e ai=>∃ n:Nat,x=.exit 0∧(e 2=.t (I id)∧e 3=.t (.ip (GM d))∧e 4=.t (.ip (dO c1 c2 t))∧e 6=.ref 0 1 0 0∧e 8=.t (I (n:Nat)))∧ai=[.row 10 [.t vq] 0]∧n<t.nodes.toNat) ?_ ?_ _ 100 _ _ (by omega) ?_
 ·rintro k e ai Y R ⟨n,i,⟨s2,a8,cY,bt,dG,cM⟩,rfl,aw,xJ⟩ bW bk
  obtain⟨si,aS⟩:=Ax h aw
  generalize aE:decide (((i:Nat):Int)<t.nodes)=q
  generalize h9 t n=b at *
  cases q
  ·simp only[S5,Ij,go_sem,s2,a8,cY,bt,dG,cM,aE]
   all_goals(refine bk _ _ _ ⟨n,rfl,?_,rfl,aw⟩;simp only[go_sem,s2,a8,cY,bt,dG])
  ·have hi:=ka aE
   have hw:IntKind.i64.wrap ((i:Nat)+1:Int)=((i+1:Nat):Int):=wrap_i64 (by omega) (by omega)
   have nX:IntKind.i64.wrap ((n:Nat)+1:Int)=((n+1:Nat):Int):=wrap_i64 (by omega) (by omega)
   have azE:((n+1:Nat):Int).tmod t.nodes=(((n+1) % t.nodes.toNat:Nat):Int):=by rw[jZ (by omega),w5,bG]
   have ane:(n+1) % t.nodes.toNat<t.nodes.toNat:=mF _ (by omega)
   generalize (n+1) % t.nodes.toNat=pb at *
   cases b
   ·(repeat' first|simp only[S5,Ij,go_sem,s2,a8,cY,bt,dG,cM,aE,si,aS,hw,nX,azE,cF,bJ]|with_reducible first|refine aZ fun _=>?_|refine a1 ?_|fail)
    all_goals(refine bW (k-1) _ _ (by omega) ⟨pb,i+1,?_,rfl,ane,by omega⟩;simp only[go_sem,s2,a8,cY,bt,hw])
   ·simp only[S5,Ij,go_sem,s2,a8,cY,bt,dG,cM,aE,si,aS,bJ]
    all_goals(refine bk _ _ _ ⟨n,rfl,?_,rfl,aw⟩;simp only[go_sem,s2,a8,cY,bt,dG])
 ·rintro x e ai ⟨n,rfl,⟨s2,a8,cY,bt,dG⟩,rfl,aw⟩
  have JJ:IntKind.u8.wrap ((n:Nat):Int)=((n:Nat):Int):=by rw[wrap_u8];omega
  obtain⟨_,Aa,az⟩:=X8 c1 c2 t h n d.wW (by omega) aae
  unfold vq
  rcases az with rfl|⟨r,rfl,al⟩
  ·simp only[BY,go_sem,s2,a8,cY,bt,dG,JJ,Aa,CI,lh]
  ·have gC:=al.rt
   obtain⟨qE,cP,gV,cg,e7,aT,pQ,nk⟩:=NI t gC
   have cx:=rI r
   have vN:=pe gV
   have tm:=pe cg
   have oz:=E5 c1 c2 t qE pQ (by omega)
   have jE:=Ao c1 c2 t cP nk (by omega)
   have nV:=(mZ h pQ).2.2.1
   have kW:=(mZ h nk).2.2.2.1
   rw[(mZ h pQ).1,← e7]at oz
   rw[(mZ h nk).2.1,← aT]at jE
   rw[← e7]at nV
   rw[← aT]at kW
   have k1:0<r.length:=gC.eh
   have lQ:r.length-1<r.length:=by omega
   have aCt:=gC.cx
   have wl:IntKind.i64.wrap (((r.length:Nat):Int)-1)=((r.length-1:Nat):Int):=by rw[wrap_i64 (by omega) (by omega)];omega
   have dn:=aF.gO
   have aB1:=aF.kC
   have aCu:=aF.rt
   have an7:=aF.pd
   have cI:IntKind.i64.wrap ((d.gO:Nat):Int)=((d.gO:Nat):Int):=wrap_i64 (by omega) (by omega)
   have dZ:IntKind.i64.wrap (84+((d.gO:Nat):Int))=84+((d.gO:Nat):Int):=wrap_i64 (by omega) (by omega)
   have hE:IntKind.i64.wrap ((d.kC:Nat):Int)=((d.kC:Nat):Int):=wrap_i64 (by omega) (by omega)
   have la:IntKind.i64.wrap (4*((d.kC:Nat):Int))=4*((d.kC:Nat):Int):=wrap_i64 (by omega) (by omega)
   have vi:IntKind.i64.wrap (84+((d.gO:Nat):Int)+4*((d.kC:Nat):Int))=84+((d.gO:Nat):Int)+4*((d.kC:Nat):Int):=wrap_i64 (by omega) (by omega)
   have yL:IntKind.i64.wrap ((d.rt:Nat):Int)=((d.rt:Nat):Int):=wrap_i64 (by omega) (by omega)
   have JF:IntKind.i64.wrap (1+((d.rt:Nat):Int))=1+((d.rt:Nat):Int):=wrap_i64 (by omega) (by omega)
   have azR:((d.pd:Nat):Int).tmod 10=((d.pd % 10:Nat):Int):=rfl
   obtain⟨c9,alQ,kI⟩:∃ c9:Int,([I 4,I 6,I 8,I 12,I 16,I 24,I 48,I 10,I 5,I 240]:List T)[d.pd % 10]? = some (I c9)∧1≤c9∧c9≤240:=by
    have an:d.pd % 10<10:=mF _ (by omega)
    generalize d.pd % 10=k at *
    match k,an with
    | 0,_=>exact⟨4,rfl,by omega⟩
    | 1,_=>exact⟨6,rfl,by omega⟩
    | 2,_=>exact⟨8,rfl,by omega⟩
    | 3,_=>exact⟨12,rfl,by omega⟩
    | 4,_=>exact⟨16,rfl,by omega⟩
    | 5,_=>exact⟨24,rfl,by omega⟩
    | 6,_=>exact⟨48,rfl,by omega⟩
    | 7,_=>exact⟨10,rfl,by omega⟩
    | 8,_=>exact⟨5,rfl,by omega⟩
    | 9,_=>exact⟨240,rfl,by omega⟩
   have anD:d.pd % 10<10:=mF _ (by omega)
   have kn:=aef gC
   obtain⟨mk,g8⟩:∃ mk:List (List Nat)→Bool→dg,mk=fun rs c=>if d.VJ=true then⟨id,pF t r,nQ t r,6,84+(d.gO:Nat),0,84+(d.gO:Nat)+4*(d.kC:Nat),1+(d.rt:Nat),1099511627776,rs,c,false⟩else⟨id,pF t r,nQ t r,7,84+(d.gO:Nat),c9,0,0,1099511627776,rs,c,false⟩:=⟨_,rfl⟩
   cases vY:d.VJ
   ·rw[vY]at g8
    simp only[fJ,et]at g8
    (repeat' first|simp only[BY,go_sem,s2,a8,cY,bt,dG,JJ,Aa,CI,kn,vN,oz,tm,jE,k1,lQ,wl,cI,dZ,vY,azR,alQ,anD,cx]|with_reducible first|refine aZ fun _=>?_|refine a1 ?_|fail)
    have fA:=fun fT R e he bk=>aeV c1 c2 t h d aF (mk [r] true) (by rw[g8]) (by rw[g8];simp only;omega) r gC n (by omega) fT 2001 (by omega) R e he bk
    have BK:∀ rs c,(rs=[r]∨∃ o,rs=[r,o]∧hS t o)→V1 t (mk rs c):=fun rs c hh=>by
     rw[g8]
     refine⟨by simp only;omega,nV,kW,by simp only;omega,by simp only;omega,by simp only;exact .inl ⟨by first|rfl|trivial,kI,by first|rfl|trivial,by first|rfl|trivial⟩,?_,?_⟩
     ·rcases hh with rfl|⟨o,rfl,aC⟩
      ·intro x U;simp only[kA]at U;rw[U];exact gC
      ·intro x U;simp only[iu,mG,mE]at U;rcases U with rfl|rfl
       ·exact gC
       ·exact aC
     ·rcases hh with rfl|⟨o,rfl,_⟩
      ·exact .inl ⟨r,rfl⟩
      ·exact .inr ⟨r,o,rfl⟩
    rw[g8]at fA BK
    simp only[ek,h8,gz,nB]at fA BK
    with_reducible refine fA _ _ _ ?_ ?_
    ·simp only[go_sem]
    ·rintro e rs c hh ⟨nr,ns,u9⟩
     obtain⟨_,Ac,b,rfl,ab⟩:=WK c1 c2 t h _ (BK rs c hh)
     unfold vq
     (repeat' first|simp only[BY,go_sem,nr,ns,u9,Ac,Bg]|with_reducible first|refine aZ fun _=>?_|refine a1 ?_|fail)
     refine⟨_,rfl,.inr ⟨_,b,rfl,rfl,ab⟩⟩
   ·rw[vY]at g8
    simp only[cQ]at g8
    (repeat' first|simp only[BY,go_sem,s2,a8,cY,bt,dG,JJ,Aa,CI,kn,vN,oz,tm,jE,k1,lQ,wl,cI,dZ,hE,la,vi,yL,JF,vY,cx]|with_reducible first|refine aZ fun _=>?_|refine a1 ?_|fail)
    have fA:=fun fT R e he bk=>aeV c1 c2 t h d aF (mk [r] true) (by rw[g8]) (by rw[g8];simp only;omega) r gC n (by omega) fT 2001 (by omega) R e he bk
    have BK:∀ rs c,(rs=[r]∨∃ o,rs=[r,o]∧hS t o)→V1 t (mk rs c):=fun rs c hh=>by
     rw[g8]
     refine⟨by simp only;omega,nV,kW,by simp only;omega,by simp only;omega,by simp only;exact .inr ⟨by first|rfl|trivial,by first|rfl|trivial,by omega,by omega⟩,?_,?_⟩
     ·rcases hh with rfl|⟨o,rfl,aC⟩
      ·intro x U;simp only[kA]at U;rw[U];exact gC
      ·intro x U;simp only[iu,mG,mE]at U;rcases U with rfl|rfl
       ·exact gC
       ·exact aC
     ·rcases hh with rfl|⟨o,rfl,_⟩
      ·exact .inl ⟨r,rfl⟩
      ·exact .inr ⟨r,o,rfl⟩
    rw[g8]at fA BK
    simp only[ek,h8,gz,nB]at fA BK
    with_reducible refine fA _ _ _ ?_ ?_
    ·simp only[go_sem]
    ·rintro e rs c hh ⟨nr,ns,u9⟩
     obtain⟨_,Ac,b,rfl,ab⟩:=WK c1 c2 t h _ (BK rs c hh)
     unfold vq
     (repeat' first|simp only[BY,go_sem,nr,ns,u9,Ac,Bg]|with_reducible first|refine aZ fun _=>?_|refine a1 ?_|fail)
     refine⟨_,rfl,.inr ⟨_,b,rfl,rfl,ab⟩⟩
 ·refine⟨f,0,?_,rfl,aI,by omega⟩
  simp only[go_sem]
end
end Go.Proofs.YtogagakgmbkonaaGreat
