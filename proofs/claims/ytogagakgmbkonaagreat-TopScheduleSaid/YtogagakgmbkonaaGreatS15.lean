/- Part 15 of the proof of TopSchedule. -/
import Derived.Test.YtogagakgmbkonaaGreatS14
set_option linter.all false
set_option maxRecDepth 100000
set_option maxHeartbeats 4000000
namespace Go.Proofs.YtogagakgmbkonaaGreat
open Go Go.Abs
abbrev I(n:Int):T:=.aA (.int .i64 n)
abbrev B(b:Bool):T:=.aA (.bool b)
abbrev PC(p n:Int):Prop:=(0≤p∧p≤15)∧(0≤n∧n≤11)
abbrev awd(a b c d e f:Int):Prop:=PC a b∧PC d e∧(0≤c∧c≤1048576)∧(0≤f∧f≤47)
structure dK where
 a:Int
 b:Int
 aK:Int
 kE:Int
 deriving DecidableEq
def aBn:dK:=⟨0,0,0,0⟩
abbrev nm(l:dK):T:=.agg [I l.a,I l.b,I l.aK,I l.kE]
def dH(l:dK):T:=nm l
theorem oq(l:dK):(dH l).cells=[I l.a,I l.b,I l.aK,I l.kE]:=rfl
structure bR where
 nodes:Int
 kM:List Bool
 cd:List dK
abbrev dO(c1 c2:Bool)(t:bR):List T:=[I t.nodes,.aP c1 1 (t.kM.map B),.aP c2 4 (t.cd.map dH)]
abbrev fY(c1 c2:Bool)(t:bR):T:=.agg (dO c1 c2 t)
def gw(t:bR)(i:Nat):dK:=t.cd[i]?.getD aBn
def h9(t:bR)(n:Nat):Bool:=t.kM[n]?.getD false
abbrev tN(t:bR)(n:Int):Prop:=0≤n∧n<t.nodes
def pV(t:bR)(l:dK):Bool:=decide (tN t l.a∧tN t l.b∧l.a≠l.b)
def Cd(t:bR)(l:dK):Bool:=!(h9 t l.a.toNat && h9 t l.b.toNat)
def we(l m:dK):Bool:=decide (l.a=m.a∧l.b=m.b∨l.a=m.b∧l.b=m.a)
def IY(t:bR)(i:Nat)(l:dK):Bool:=(t.cd.take i).all (fun m=>!we l m)
def yb(l:dK):Bool:=decide ((1≤l.aK∧l.aK≤1000)∧0≤l.kE∧l.kE≤10000)
def sC(t:bR)(i:Nat)(l:dK):Bool:=pV t l && (Cd t l && (IY t i l && yb l))
def yD(t:bR):Bool:=(List.range t.cd.length).all (fun i=>sC t i (gw t i))
theorem ady(c1 c2:Bool)(t:bR)(n:Int):a0 Tryz.prog pol 104 [fY c1 c2 t,I n]=some (B (decide (tN t n))):=by
 refine cK 1 1 apa (bH rfl) ?_
 by_cases h:0≤n
 ·have e7:decide (0≤n)=true:=bY h
  have aT:decide (0≤n∧n<t.nodes)=decide (n<t.nodes):=by simp[h]
  rw[aT]
  (have af:=mQ;repeat' first|simp only[af,Sx,go_sem,e7]|((with_reducible first|refine oc (fun af=>?_) fun af=>?_|refine ob (fun af=>?_) fun af=>?_)<;>try simp only[nL,nM]at af)|with_reducible first|refine aZ fun _=>?_|refine a1 ?_|fail)
 ·have e7:decide (0≤n)=false:=bA h
  rw[bA (fun k=>h k.1)]
  (have af:=mQ;repeat' first|simp only[af,Sx,go_sem,e7]|((with_reducible first|refine oc (fun af=>?_) fun af=>?_|refine ob (fun af=>?_) fun af=>?_)<;>try simp only[nL,nM]at af)|with_reducible first|refine aZ fun _=>?_|refine a1 ?_|fail)
theorem ayH(c1 c2:Bool)(t:bR)(i:Nat)(hi:i<t.cd.length):a0 Tryz.prog pol 103 [I (i:Nat),.ip (dO c1 c2 t)]=some (B (pV t (gw t i))):=by
 have ay:(t.cd.map dH)[i]? = some (dH (gw t i)):=by simp[gw,hi]
 have bB:=ady c1 c2 t (gw t i).a
 have aO:=ady c1 c2 t (gw t i).b
 generalize gw t i=l at *
 refine cK 1 1 ao9 (bH rfl) ?_
 simp only[pV]
 by_cases ad:tN t l.a
 ·by_cases ag:tN t l.b
  ·have aT:=bY ad
   have aW:=bY ag
   by_cases aJ:l.a=l.b
   ·have bw:=bY aJ
    rw[bA (fun h=>h.2.2 aJ)]
    (have af:=mQ;repeat' first|simp only[af,H3,go_sem,ay,oq,bB,aO,aT,aW,bw]|((with_reducible first|refine oc (fun af=>?_) fun af=>?_|refine ob (fun af=>?_) fun af=>?_)<;>try simp only[nL,nM]at af)|with_reducible first|refine aZ fun _=>?_|refine a1 ?_|fail)
   ·have bw:=bA aJ
    rw[bY (⟨ad,ag,aJ⟩:_∧_∧_)]
    (have af:=mQ;repeat' first|simp only[af,H3,go_sem,ay,oq,bB,aO,aT,aW,bw]|((with_reducible first|refine oc (fun af=>?_) fun af=>?_|refine ob (fun af=>?_) fun af=>?_)<;>try simp only[nL,nM]at af)|with_reducible first|refine aZ fun _=>?_|refine a1 ?_|fail)
  ·have aT:=bY ad
   have aW:=bA ag
   rw[bA (fun h=>ag h.2.1)]
   (have af:=mQ;repeat' first|simp only[af,H3,go_sem,ay,oq,bB,aO,aT,aW]|((with_reducible first|refine oc (fun af=>?_) fun af=>?_|refine ob (fun af=>?_) fun af=>?_)<;>try simp only[nL,nM]at af)|with_reducible first|refine aZ fun _=>?_|refine a1 ?_|fail)
 ·have aT:=bA ad
  rw[bA (fun h=>ad h.1)]
  (have af:=mQ;repeat' first|simp only[af,H3,go_sem,ay,oq,bB,aT]|((with_reducible first|refine oc (fun af=>?_) fun af=>?_|refine ob (fun af=>?_) fun af=>?_)<;>try simp only[nL,nM]at af)|with_reducible first|refine aZ fun _=>?_|refine a1 ?_|fail)
theorem N1(t:bR){n:Int}(J:(t.kM.length:Int)=t.nodes)(h:tN t n):(t.kM.map B)[n.toNat]? = some (B (h9 t n.toNat))∧0≤n:=by
 obtain⟨ad,ag⟩:=h
 have:n.toNat<t.kM.length:=by omega
 exact⟨by simp[h9,this],ad⟩
theorem ayI(c1 c2:Bool)(t:bR)(J:(t.kM.length:Int)=t.nodes)(i:Nat)(hi:i<t.cd.length)(ad:pV t (gw t i)=true):a0 Tryz.prog pol 105 [I (i:Nat),.ip (dO c1 c2 t)]=some (B (Cd t (gw t i))):=by
 have ay:(t.cd.map dH)[i]? = some (dH (gw t i)):=by simp[gw,hi]
 obtain⟨cP,dc,_⟩:=ka ad
 obtain⟨cg,a3⟩:=N1 t J cP
 obtain⟨c5,a7⟩:=N1 t J dc
 generalize gw t i=l at *
 refine cK 1 1 apb (bH rfl) ?_
 simp only[Cd]
 generalize h9 t l.a.toNat=a at *
 generalize h9 t l.b.toNat=b at *
 cases a<;>cases b
 all_goals(have af:=mQ;repeat' first|simp only[af,aaw,go_sem,ay,oq,cg,c5,a3,a7]|((with_reducible first|refine oc (fun af=>?_) fun af=>?_|refine ob (fun af=>?_) fun af=>?_)<;>try simp only[nL,nM]at af)|with_reducible first|refine aZ fun _=>?_|refine a1 ?_|fail)
theorem ayK(c1 c2:Bool)(t:bR)(i:Nat)(hi:i<t.cd.length):a0 Tryz.prog pol 107 [I (i:Nat),.ip (dO c1 c2 t)]=some (B (yb (gw t i))):=by
 have ay:(t.cd.map dH)[i]? = some (dH (gw t i)):=by simp[gw,hi]
 generalize gw t i=l at *
 refine cK 1 1 apd (bH rfl) ?_
 simp only[yb]
 (have af:=mQ;repeat' first|simp only[af,aay,go_sem,ay,oq]|((with_reducible first|refine oc (fun af=>?_) fun af=>?_|refine ob (fun af=>?_) fun af=>?_)<;>try simp only[nL,nM]at af)|with_reducible first|refine aZ fun _=>?_|refine a1 ?_|fail)
 (all_goals(first|rfl|(simp_all ;done)|(simp_all <;>(first|done|(intros;omega)|(rw[oi];intros;omega)|(rw[ho];intros;omega)|(split<;>first|done|(intros;omega)|(simp_all<;>omega))))))
theorem ayJ(c1 c2:Bool)(t:bR)(i:Nat)(hi:i<t.cd.length)(ab:t.cd.length≤100):a0 Tryz.prog pol 106 [I (i:Nat),.ip (dO c1 c2 t)]=some (B (IY t i (gw t i))):=by
 have ay:(t.cd.map dH)[i]? = some (dH (gw t i)):=by simp[gw,hi]
 have hle:i≤t.cd.length:=Nat.le_of_lt hi
 have k2:(t.cd.map dH).take i=(t.cd.take i).map dH:=by rw[y7]
 have ao:(t.cd.take i).length=i:=by simp;omega
 simp only[IY]
 generalize gw t i=l at *
 generalize aE:t.cd.take i=q at *
 refine cK 1000 1 apc (bH rfl) ?_
 (have af:=mQ;repeat' first|simp only[af,L0,go_sem,ay,oq,hle,k2]|((with_reducible first|refine oc (fun af=>?_) fun af=>?_|refine ob (fun af=>?_) fun af=>?_)<;>try simp only[nL,nM]at af)|with_reducible first|refine aZ fun _=>?_|refine a1 ?_|fail)
 generalize (c2 && decide (i=t.cd.length))=Dv
 refine k4 q dH (step:=fun _ m (_:Unit)=>if(!we l m)=true then dQ.go ()else dQ.out false) (fin:=fun _=>true)
  (St:=fun j _ e h=>(e 4=.ref 0 1 0 0∧e 15=.t (.aP Dv 4 (q.map dH))∧e 16=.t (I (q.length:Nat))∧e 17=.t (I (j:Nat)))∧h=[.row 4 [.t (.agg [I l.a,I l.b,I l.aK,I l.kE])] 1])
  (Ex:=fun r x e h=>r=true∧x=.exit 0∨r=false∧x=.ret∧e 3=.t (B false)) (s:=()) (by omega) ?_ ?_ (by omega) ?_ ?_
 ·intro j m _ e h Y R hm aU U bx aB hw ⟨J,aY⟩ an
  subst aY
  by_cases cJ:l.a=m.a
  ·have d1:decide (l.a=m.a)=true:=bY cJ
   by_cases cU:l.b=m.b
   ·have d2:decide (l.b=m.b)=true:=bY cU
    rw[a2 (by rw[show we l m=true from bY (.inl ⟨cJ,cU⟩)];simp),lg]at an
    (have af:=mQ;repeat' first|simp only[af,zY,v9,go_sem,J,bx,oq,aB,hw,d1,d2]|((with_reducible first|refine oc (fun af=>?_) fun af=>?_|refine ob (fun af=>?_) fun af=>?_)<;>try simp only[nL,nM]at af)|with_reducible first|refine aZ fun _=>?_|refine a1 ?_|fail)
    all_goals(refine an _ _ _ (.inr ?_);simp only[go_sem])
   ·have d2:decide (l.b=m.b)=false:=bA cU
    by_cases dU:l.a=m.b
    ·have d3:decide (l.a=m.b)=true:=bY dU
     by_cases gA:l.b=m.a
     ·have d4:decide (l.b=m.a)=true:=bY gA
      rw[a2 (by rw[show we l m=true from bY (.inr ⟨dU,gA⟩)];simp),lg]at an
      (have af:=mQ;repeat' first|simp only[af,zY,v9,go_sem,J,bx,oq,aB,hw,d1,d2,d3,d4]|((with_reducible first|refine oc (fun af=>?_) fun af=>?_|refine ob (fun af=>?_) fun af=>?_)<;>try simp only[nL,nM]at af)|with_reducible first|refine aZ fun _=>?_|refine a1 ?_|fail)
      all_goals(refine an _ _ _ (.inr ?_);simp only[go_sem])
     ·have d4:decide (l.b=m.a)=false:=bA gA
      rw[a6 (by rw[show we l m=false from bA (by omega)];rfl),g6]at an
      (have af:=mQ;repeat' first|simp only[af,zY,v9,go_sem,J,bx,oq,aB,hw,d1,d2,d3,d4]|((with_reducible first|refine oc (fun af=>?_) fun af=>?_|refine ob (fun af=>?_) fun af=>?_)<;>try simp only[nL,nM]at af)|with_reducible first|refine aZ fun _=>?_|refine a1 ?_|fail)
      all_goals(refine an _ _ ⟨?_,rfl⟩;simp only[go_sem,J,hw])
    ·have d3:decide (l.a=m.b)=false:=bA dU
     rw[a6 (by rw[show we l m=false from bA (by omega)];rfl),g6]at an
     (have af:=mQ;repeat' first|simp only[af,zY,v9,go_sem,J,bx,oq,aB,hw,d1,d2,d3]|((with_reducible first|refine oc (fun af=>?_) fun af=>?_|refine ob (fun af=>?_) fun af=>?_)<;>try simp only[nL,nM]at af)|with_reducible first|refine aZ fun _=>?_|refine a1 ?_|fail)
     all_goals(refine an _ _ ⟨?_,rfl⟩;simp only[go_sem,J,hw])
  ·have d1:decide (l.a=m.a)=false:=bA cJ
   by_cases dU:l.a=m.b
   ·have d3:decide (l.a=m.b)=true:=bY dU
    by_cases gA:l.b=m.a
    ·have d4:decide (l.b=m.a)=true:=bY gA
     rw[a2 (by rw[show we l m=true from bY (.inr ⟨dU,gA⟩)];simp),lg]at an
     (have af:=mQ;repeat' first|simp only[af,zY,v9,go_sem,J,bx,oq,aB,hw,d1,d3,d4]|((with_reducible first|refine oc (fun af=>?_) fun af=>?_|refine ob (fun af=>?_) fun af=>?_)<;>try simp only[nL,nM]at af)|with_reducible first|refine aZ fun _=>?_|refine a1 ?_|fail)
     all_goals(refine an _ _ _ (.inr ?_);simp only[go_sem])
    ·have d4:decide (l.b=m.a)=false:=bA gA
     rw[a6 (by rw[show we l m=false from bA (by omega)];rfl),g6]at an
     (have af:=mQ;repeat' first|simp only[af,zY,v9,go_sem,J,bx,oq,aB,hw,d1,d3,d4]|((with_reducible first|refine oc (fun af=>?_) fun af=>?_|refine ob (fun af=>?_) fun af=>?_)<;>try simp only[nL,nM]at af)|with_reducible first|refine aZ fun _=>?_|refine a1 ?_|fail)
     all_goals(refine an _ _ ⟨?_,rfl⟩;simp only[go_sem,J,hw])
   ·have d3:decide (l.a=m.b)=false:=bA dU
    rw[a6 (by rw[show we l m=false from bA (by omega)];rfl),g6]at an
    (have af:=mQ;repeat' first|simp only[af,zY,v9,go_sem,J,bx,oq,aB,hw,d1,d3]|((with_reducible first|refine oc (fun af=>?_) fun af=>?_|refine ob (fun af=>?_) fun af=>?_)<;>try simp only[nL,nM]at af)|with_reducible first|refine aZ fun _=>?_|refine a1 ?_|fail)
    all_goals(refine an _ _ ⟨?_,rfl⟩;simp only[go_sem,J,hw])
 ·intro _ e h Y R aB ⟨J,aY⟩ an
  subst aY
  (have af:=mQ;repeat' first|simp only[af,zY,v9,go_sem,J,aB]|((with_reducible first|refine oc (fun af=>?_) fun af=>?_|refine ob (fun af=>?_) fun af=>?_)<;>try simp only[nL,nM]at af)|with_reducible first|refine aZ fun _=>?_|refine a1 ?_|fail)
  all_goals(refine an _ _ _ (.inl ?_);simp only[go_sem])
 ·refine⟨?_,rfl⟩
  simp only[go_sem]
 ·intro x e h U
  rw[ak3]at U
  rcases U with⟨ab,rfl⟩|⟨ab,rfl,aW⟩
  ·(have af:=mQ;repeat' first|simp only[af,L0,go_sem,ab]|((with_reducible first|refine oc (fun af=>?_) fun af=>?_|refine ob (fun af=>?_) fun af=>?_)<;>try simp only[nL,nM]at af)|with_reducible first|refine aZ fun _=>?_|refine a1 ?_|fail)
  ·(have af:=mQ;repeat' first|simp only[af,L0,go_sem,aW,ab]|((with_reducible first|refine oc (fun af=>?_) fun af=>?_|refine ob (fun af=>?_) fun af=>?_)<;>try simp only[nL,nM]at af)|with_reducible first|refine aZ fun _=>?_|refine a1 ?_|fail)
structure p7 where
 is:Bool
 a:Int
 b:Int
 c:Int
 d:Int
 e:Int
 f:Int
 g:Int
 deriving DecidableEq
abbrev amZ(h:p7):T:=.agg [B h.is,I h.a,I h.b,I h.c,I h.d,I h.e,I h.f,I h.g]
def aj5(h:p7):T:=amZ h
def afD:p7:=⟨false,0,0,0,0,0,0,0⟩
structure mC where
 p:Int
 n:Int
 u5:List Int
 Bb:List Int
 heard:List p7
abbrev A8(c1 c2 dh:Bool)(b:mC):List T:=[I b.p,I b.n,.aP c1 1 (b.u5.map I),.aP c2 1 (b.Bb.map I),.aP dh 8 (b.heard.map aj5)]
def Zo(h:p7):Prop:=awd h.a h.b h.c h.d h.e h.f∧0≤h.g∧h.g≤20
instance(h:p7):Decidable (Zo h):=inferInstanceAs (Decidable (_∧_))
def Nq(h:p7):Prop:=(h.is=true→Zo h)∧(h.is=false→h=afD)
instance(h:p7):Decidable (Nq h):=inferInstanceAs (Decidable (_∧_))
def Nv(b:mC)(i:Nat):Int:=b.u5[i]?.getD 0
def PU(b:mC)(i:Nat):Int:=b.Bb[i]?.getD 0
def o5(b:mC)(i:Nat):p7:=b.heard[i]?.getD afD
def Ve(b:mC)(i:Nat):Bool:=decide ((0≤Nv b i∧Nv b i<48)∧(0<i→Nv b (i-1)<Nv b i)∧(1≤PU b i∧PU b i≤1000)∧Nq (o5 b i))
def Ja(b:mC):Prop:=b.u5.length≤24∧b.Bb.length=b.u5.length∧b.heard.length=b.u5.length
instance(b:mC):Decidable (Ja b):=inferInstanceAs (Decidable (_∧_))
def okB(b:mC):Bool:=decide (Ja b) && decide (PC b.p b.n) && (List.range b.u5.length).all (Ve b)
theorem Yr{α:Type}{p:Nat→Bool}:∀(l:List α) (k:Nat),gJ (fun i _ (_:Unit)=>if p i then dQ.go ()else dQ.out false) (fun _=>true) k l ()=(List.range' k l.length).all p:=by
 intro l
 induction l with
 | nil=>intro k;rfl
 | cons x l au =>
  intro k
  rw[jc,vA,Ga]
  cases h:p k with
  | true=>rw[ng (s':=()) (by simp[h]),au,ur]
  | false=>rw[q3 (r:=false) (by simp[h]),vw]
theorem ayM(c1 c2:Bool)(t:bR)(J:(t.kM.length:Int)=t.nodes)(ab:t.cd.length≤100):a0 Tryz.prog pol 70 [fY c1 c2 t]=some (B (yD t)):=by
 refine cK 1000 1 aqS (bH rfl) ?_
 simp only[ML,go_sem]
 refine k4 t.cd dH (step:=fun i _ (_:Unit)=>if sC t i (gw t i)=true then dQ.go ()else dQ.out false) (fin:=fun _=>true)
  (St:=fun i _ e h=>(e 3=.ref 0 1 0 0∧e 14=.t (I (t.cd.length:Nat))∧e 15=.t (I (i:Nat))) ∧
   h=[.row 4 [.t (.agg [.fn (.func 103) [] [.ip (dO c1 c2 t)],.fn (.func 105) [] [.ip (dO c1 c2 t)],.fn (.func 106) [] [.ip (dO c1 c2 t)],.fn (.func 107) [] [.ip (dO c1 c2 t)]])] 1])
  (Ex:=fun r x e h=>r=true∧x=.exit 0∨r=false∧x=.ret∧e 2=.t (B false)) (s:=()) (by omega) ?_ ?_ (by omega) ?_ ?_
 ·intro i m _ e h Y R hm hi U bx aB hw ⟨gl,aY⟩ an
  subst aY
  have bB:=ayH c1 c2 t i hi
  have gb:=ayK c1 c2 t i hi
  have ed:=ayJ c1 c2 t i hi ab
  cases ad:pV t (gw t i)with
  | false =>
   rw[ad]at bB
   rw[a2 (by simp[sC,ad]),lg]at an
   (repeat' first|simp only[EG,z6,go_sem,gl,aB,hw,bB]|with_reducible refine aZ fun _=>?_|((with_reducible refine yM ?_ ?_);rfl)|((with_reducible refine wc (body:=c6 _ _ _ _ _ _ B7) ?_ ?_);exact bH rfl;simp only[IG,B8])|fail)
   all_goals(refine an _ _ _ (.inr ?_);simp only[go_sem])
  | true =>
   have aO:=ayI c1 c2 t J i hi ad
   rw[ad]at bB
   cases ag:Cd t (gw t i)with
   | false =>
    rw[ag]at aO
    rw[a2 (by simp[sC,ag]),lg]at an
    (repeat' first|simp only[EG,z6,go_sem,gl,aB,hw,bB,aO]|with_reducible refine aZ fun _=>?_|((with_reducible refine yM ?_ ?_);rfl)|((with_reducible refine wc (body:=c6 _ _ _ _ _ _ B7) ?_ ?_);exact bH rfl;simp only[IG,B8])|fail)
    all_goals(refine an _ _ _ (.inr ?_);simp only[go_sem])
   | true =>
    rw[ag]at aO
    cases aJ:IY t i (gw t i)with
    | false =>
     rw[aJ]at ed
     rw[a2 (by simp[sC,aJ]),lg]at an
     (repeat' first|simp only[EG,z6,go_sem,gl,aB,hw,bB,aO,ed]|with_reducible refine aZ fun _=>?_|((with_reducible refine yM ?_ ?_);rfl)|((with_reducible refine wc (body:=c6 _ _ _ _ _ _ B7) ?_ ?_);exact bH rfl;simp only[IG,B8])|fail)
     all_goals(refine an _ _ _ (.inr ?_);simp only[go_sem])
    | true =>
     rw[aJ]at ed
     cases bL:yb (gw t i)with
     | false =>
      rw[bL]at gb
      rw[a2 (by simp[sC,bL]),lg]at an
      (repeat' first|simp only[EG,z6,go_sem,gl,aB,hw,bB,aO,ed,gb]|with_reducible refine aZ fun _=>?_|((with_reducible refine yM ?_ ?_);rfl)|((with_reducible refine wc (body:=c6 _ _ _ _ _ _ B7) ?_ ?_);exact bH rfl;simp only[IG,B8])|fail)
      all_goals(refine an _ _ _ (.inr ?_);simp only[go_sem])
     | true =>
      rw[bL]at gb
      rw[a6 (by simp[sC,ad,ag,aJ,bL]),g6]at an
      (repeat' first|simp only[EG,z6,go_sem,gl,aB,hw,bB,aO,ed,gb]|with_reducible refine aZ fun _=>?_|((with_reducible refine yM ?_ ?_);rfl)|((with_reducible refine wc (body:=c6 _ _ _ _ _ _ B7) ?_ ?_);exact bH rfl;simp only[IG,B8])|fail)
      all_goals(refine an _ _ ⟨?_,rfl⟩;simp only[go_sem,gl,hw])
 ·intro _ e h Y R aB ⟨gl,aY⟩ an
  subst aY
  simp only[EG,z6,go_sem,gl,aB]
  all_goals(refine an _ _ _ (.inl ?_);simp only[go_sem])
 ·refine⟨?_,rfl⟩
  simp only[go_sem]
 ·intro x e h U
  rw[Yr,← sZ]at U
  simp only[yD]
  rcases U with⟨ab,rfl⟩|⟨ab,rfl,aW⟩
  ·simp only[ML,go_sem,ab]
  ·simp only[ML,go_sem,aW,ab]
def pf(r:List Bool)(n:Int):Bool:=r[n.toNat]?.getD false
def yu(cut:Nat→Bool)(i:Nat)(r:List Bool)(l:dK):List Bool:=if(!cut i && (pf r l.a != pf r l.b))=true then(r.set l.a.toNat true).set l.b.toNat true else r
def va(cut:Nat→Bool):Nat→List dK→List Bool→List Bool
 | _,[],r=>r
 | i,l::ls,r=>va cut (i+1) ls (yu cut i r l)
def Ct(cut:Nat→Bool)(ls:List dK):Nat→List Bool→List Bool
 | 0,r=>r
 | n+1,r=>Ct cut ls n (va cut 0 ls r)
def tU(t:bR)(s:Nat)(cut:Nat→Bool):List Bool:=Ct cut t.cd t.nodes.toNat ((List.replicate t.nodes.toNat false).set s true)
theorem Vw{r:List Bool}{n:Int}(h:n.toNat<r.length):((r.map B).map ah.t)[n.toNat]? = some (.t (B (pf r n))):=Ci (enc:=B) (by simp only[pf];rw[fC h];rfl)
theorem av7(cut:Nat→Bool)(i:Nat)(r:List Bool)(l:dK):(yu cut i r l).length=r.length:=by
 unfold yu
 split<;>simp
theorem aea(cut:Nat→Bool):∀(ls:List dK) (i:Nat) (r:List Bool),(va cut i ls r).length=r.length:=by
 intro ls
 induction ls with
 | nil=>intro i r;rfl
 | cons l ls au=>intro i r;rw[va,au,av7]
theorem av2(cut:Nat→Bool)(ls:List dK):∀(n:Nat) (r:List Bool),(Ct cut ls n r).length=r.length:=by
 intro n
 induction n with
 | zero=>intro r;rfl
 | succ n au=>intro r;rw[Ct,au,aea]
theorem VB(t:bR)(s:Nat)(cut:Nat→Bool):(tU t s cut).length=t.nodes.toNat:=by rw[tU,av2];simp
def Be(t:bR)(l:dK):Prop:=tN t l.a∧tN t l.b∧l.a≠l.b
theorem awT(t:bR)(az:∀ l∈t.cd,Be t l)(ab:t.cd.length≤24)(cs:List Bool)(q9:cs.length=24)(c1 c2:Bool)(N:Nat)(bG:(N:Int)=t.nodes)(Om On:T)(r:List Bool)(al:r.length=N)(aG:Nat)(bN:aG≤N)
  (fT:eY) (aR:Nat) (aw:100<aR) (R:cW→aM→aj→Prop) (e:aM)
  (he:e 3=.t (.ip (dO c1 c2 t))∧e 5=.t (.ip (cs.map B))∧e 7=.ms 0 N 0 N 1 true∧e 17=.t Om∧e 18=.t On∧e 21=.t (.aP c2 4 (t.cd.map dH))∧e 22=.t (I (t.cd.length:Nat))∧e 23=.t (I 0))
  (bk:∀ e aG,aG≤N→(e 3=.t (.ip (dO c1 c2 t))∧e 5=.t (.ip (cs.map B))∧e 7=.ms 0 N 0 N 1 true∧e 17=.t Om∧e 18=.t On)→R (.exit 2) e [.row 1 (((va (fun i=>cs[i]?.getD false) 0 t.cd r).map B).map .t) aG]) :
  gP 1 (some [3,5,7,17,18,21,22,23]) (c6 Tryz.prog pol (a0 Tryz.prog pol) fT aR 72 T5) R aR e [.row 1 ((r.map B).map .t) aG]:=by
 have aS:∀(r:List Bool) (n:Nat),(((r.map B).map ah.t).set n (.t (B true)))=((r.set n true).map B).map .t:=fun r n=>map_set (enc:=B)
 refine k4 t.cd dH (step:=fun i l r=>.go (yu (fun i=>cs[i]?.getD false) i r l)) (fin:=id)
  (St:=fun i r e h=>(e 3=.t (.ip (dO c1 c2 t))∧e 5=.t (.ip (cs.map B))∧e 7=.ms 0 N 0 N 1 true∧e 17=.t Om∧e 18=.t On∧e 21=.t (.aP c2 4 (t.cd.map dH))∧e 22=.t (I (t.cd.length:Nat))∧e 23=.t (I (i:Nat)))∧r.length=N∧∃ aG,aG≤N∧h=[.row 1 ((r.map B).map .t) aG])
  (Ex:=fun r x e h=>(e 3=.t (.ip (dO c1 c2 t))∧e 5=.t (.ip (cs.map B))∧e 7=.ms 0 N 0 N 1 true∧e 17=.t Om∧e 18=.t On)∧x=.exit 2∧∃ aG,aG≤N∧h=[.row 1 ((r.map B).map .t) aG]) (s:=r) (by omega) ?_ ?_ (by omega) ⟨he,al,aG,bN,rfl⟩ ?_
 ·intro i l r e h Y R hm hi U bx aB hw ⟨J,al,aG,bN,aY⟩ an
  subst aY
  simp only[g6]at an
  obtain⟨cP,dc,fi⟩:=az l hm
  have a3:0≤l.a:=cP.1
  have a7:0≤l.b:=dc.1
  have cz:l.a.toNat<N:=by omega
  have eJ:l.b.toNat<N:=by omega
  have Rv:i<24:=by omega
  obtain⟨ki,Lj⟩:∃ ki,cs[i]? = some ki:=⟨cs[i]'(by omega),by simp⟩
  have Rg:(fun i=>cs[i]?.getD false) i=ki:=by simp[Lj]
  have gV:(cs.map B).drop (i*1)=B ki::(cs.map B).drop (i+1):=by
   rw[w9,WX (by simp;omega)]
   congr 1
   have:=cD.1 Lj
   obtain⟨ad,ag⟩:=this
   simp[ag]
  have cg:=Vw (r:=r) (n:=l.a) (by omega)
  have c5:=Vw (r:=r) (n:=l.b) (by omega)
  simp only[yu,Rg]at an
  cases ki with
  | true =>
   simp only[vx,vw,fJ,et]at an
   (repeat' first|simp only[MM,EH,go_sem,J,bx,oq,aB,hw,Rv,gV]|with_reducible first|refine aZ fun _=>?_|refine a1 ?_|fail)
   all_goals(refine an _ _ ⟨?_,al,aG,bN,?_⟩<;>simp only[go_sem,J,hw])
  | false =>
   by_cases k3:(pf r l.a != pf r l.b)=true
   ·rw[a6 (by rw[qT,ur];exact k3)]at an
    have fA:(r.set l.a.toNat true).length=N:=by simpa using al
    have eC:((r.set l.a.toNat true).set l.b.toNat true).length=N:=by simpa using al
    have s1:=aS r l.a.toNat
    have s2:=aS (r.set l.a.toNat true) l.b.toNat
    have nR:=Vw (r:=r.set l.a.toNat true) (n:=l.b) (by rw[fA];exact eJ)
    generalize pf (r.set l.a.toNat true) l.b=z at *
    generalize r.set l.a.toNat true=b9 at *
    generalize b9.set l.b.toNat true=b3 at *
    generalize pf r l.a=a at *
    generalize pf r l.b=b at *
    (repeat' first|simp only[MM,EH,go_sem,J,bx,oq,aB,hw,Rv,gV,a3,a7,cz,eJ,cg,c5,nR,k3,s1,s2,al,fA,eC,bN]|with_reducible first|refine aZ fun _=>?_|refine a1 ?_|fail)
    all_goals(refine an _ _ ⟨?_,eC,N,bP _,?_⟩<;>simp only[go_sem,J,hw])
   ·have aoM:(pf r l.a != pf r l.b)=false:=by simpa using k3
    rw[a2 (by rw[qT,ur];exact k3)]at an
    generalize pf r l.a=a at *
    generalize pf r l.b=b at *
    (repeat' first|simp only[MM,EH,go_sem,J,bx,oq,aB,hw,Rv,gV,a3,a7,cz,eJ,cg,c5,aoM,al,bN]|with_reducible first|refine aZ fun _=>?_|refine a1 ?_|fail)
    all_goals(refine an _ _ ⟨?_,al,aG,bN,?_⟩<;>simp only[go_sem,J,hw])
 ·intro r e h Y R aB ⟨J,al,aG,bN,aY⟩ an
  subst aY
  simp only[MM,EH,go_sem,J,aB]
  all_goals(refine an _ _ _ ⟨?_,rfl,aG,bN,rfl⟩;simp only[go_sem,J,id])
 ·intro x e h ⟨ad,ag,aG,bN,aJ⟩
  subst ag aJ
  have aI:∀(ls:List dK) (i:Nat) (r:List Bool),gJ (ρ:=List Bool) (fun i l r=>dQ.go (yu (fun i=>cs[i]?.getD false) i r l)) id i ls r=va (fun i=>cs[i]?.getD false) i ls r:=by
   intro ls
   induction ls with
   | nil=>intro i r;rfl
   | cons l ls au=>intro i r;rw[ng (s':=yu (fun i=>cs[i]?.getD false) i r l) rfl,au];rfl
  rw[aI]at *
  exact bk _ aG bN ad
theorem ay4:∀ cs:List Bool,fX ((cs.map B).map ah.t)=true:=by
 intro cs
 induction cs with
 | nil=>rfl
 | cons c cs au=>simp only[gz,aeU,au];rfl
theorem awR(c1 c2:Bool)(t:bR)(az:∀ l∈t.cd,Be t l)(ab:t.cd.length≤24)(aw:0≤t.nodes∧t.nodes≤100)(s:Nat)(J:(s:Int)<t.nodes)(cs:List Bool)(q9:cs.length=24) :
  a0 Tryz.prog pol 72 [fY c1 c2 t,I (s:Nat),.agg (cs.map B)]=some (.aP true 1 ((tU t s (fun i=>cs[i]?.getD false)).map B)):=by
 obtain⟨nodes,kM,cd⟩:=t
 dsimp only at az ab aw J
 obtain⟨N,rfl⟩:∃ N:Nat,nodes=(N:Int):=⟨nodes.toNat,by omega⟩
 have DS:((N:Nat):Int).toNat=N:=by omega
 have Z5:s<N:=by omega
 have fr:1*N≤eQ:=by rw[s3];exact l9 (by omega) (by omega)
 have Bo:N≤9223372036854775807:=by omega
 have hlen:=VB ⟨N,kM,cd⟩ s (fun i=>cs[i]?.getD false)
 dsimp only at hlen
 rw[DS]at hlen
 simp only[tU,DS]at hlen ⊢
 have qq:=map_set (enc:=B) (l:=List.replicate N false) (i:=s) (x:=true)
 simp only[List.map_replicate]at qq
 have Eh:((List.replicate N (ah.t (B false))))[s]? = some (.t (B false)):=by simp[Z5]
 have kl:((List.replicate N false).set s true).length=N:=by simp
 generalize k1:(List.replicate N false).set s true=nq at *
 clear k1
 have HF:=ay4 cs
 refine cK 1000 1 aqU (bH rfl) ?_
 (repeat' first|simp only[T4,go_sem,fr,Bo,Z5,Eh,qq,HF,ic]|with_reducible first|refine aZ fun _=>?_|refine a1 ?_|fail)
 refine wj N (step:=fun i r=>.go (va (fun i=>cs[i]?.getD false) 0 cd r)) (fin:=id)
  (St:=fun i r e h=>(e 3=.t (.ip (dO c1 c2 ⟨N,kM,cd⟩))∧e 5=.t (.ip (cs.map B))∧e 7=.ms 0 N 0 N 1 true∧e 17=.t (I (N:Nat))∧e 18=.t (I (i:Nat)))∧r.length=N∧∃ aG,aG≤N∧h=[.row 1 ((r.map B).map .t) aG])
  (Ex:=fun r x e h=>e 7=.ms 0 N 0 N 1 true∧r.length=N∧x=.exit 0∧∃ aG,aG≤N∧h=[.row 1 ((r.map B).map .t) aG]) (s:=nq) (by omega) ?_ ?_ (by omega) ?_ ?_
 ·intro i r e h Y R hi aB hw ⟨gl,al,aG,bN,aY⟩ an
  subst aY
  simp only[g6]at an
  (repeat' first|simp only[T6,IH,go_sem,gl,aB]|with_reducible first|refine aZ fun _=>?_|refine a1 ?_|fail)
  refine awT ⟨N,kM,cd⟩ az ab cs q9 c1 c2 N rfl (I (N:Nat)) (I (i:Nat)) r al aG bN _ _ (by omega) _ _ (by simp only[go_sem,gl]) ?_
  intro bs oD RJ Ln
  (repeat' first|simp only[T6,IH,go_sem,Ln,hw]|with_reducible first|refine aZ fun _=>?_|refine a1 ?_|fail)
  all_goals(refine an _ _ ⟨?_,by rw[aea];exact al,oD,RJ,rfl⟩;simp only[go_sem,Ln,hw])
 ·intro r e h Y R aB ⟨gl,al,aG,bN,aY⟩ an
  subst aY
  (repeat' first|simp only[T6,IH,go_sem,gl,aB]|with_reducible first|refine aZ fun _=>?_|refine a1 ?_|fail)
  all_goals(refine an _ _ _ ⟨?_,al,rfl,aG,bN,rfl⟩;simp only[go_sem,gl])
 ·refine⟨?_,kl,N,bP _,rfl⟩
  simp only[go_sem]
 ·intro x e h ⟨ad,al,ag,aG,bN,aJ⟩
  have aI:∀(n i:Nat) (r:List Bool),gJ (ρ:=List Bool) (fun(_:Nat) (_:Unit) r=>dQ.go (va (fun i=>cs[i]?.getD false) 0 cd r)) id i (List.replicate n ()) r=Ct (fun i=>cs[i]?.getD false) cd n r:=by
   intro n
   induction n with
   | zero=>intro i r;rfl
   | succ n au=>intro i r;rw[pB,ng (s':=va (fun i=>cs[i]?.getD false) 0 cd r) rfl,au];rfl
  rw[aI]at al aJ
  subst ag aJ
  (repeat' first|simp only[T4,go_sem,ad,al,bN]|with_reducible first|refine aZ fun _=>?_|refine a1 ?_|fail)
def qt{α:Type}[DecidableEq α](v:α):Nat→List α→Int
 | _,[]=>-1
 | i,x::r=>if x=v then(i:Nat)else qt v (i+1) r
theorem aar{α:Type}[DecidableEq α]{v:α}:∀ {l:List α} {i:Nat},v ∉ l→qt v i l = -1:=by
 intro l
 induction l with
 | nil=>intro i _;rfl
 | cons x l au =>
  intro i h
  rw[qt,a2 (fun e=>h (by simp[e])),au (fun hm=>h (by simp[hm]))]
theorem aaq{α:Type}[DecidableEq α]{v:α}:∀ {l:List α} {i:Nat},v∈l→(i:Int)≤qt v i l:=by
 intro l
 induction l with
 | nil=>intro i h;cases h
 | cons x l au =>
  intro i h
  rw[qt]
  split
  ·omega
  ·rename_i U
   have:v∈l:=by
    cases h with
    | head=>exact absurd rfl U
    | tail _ h=>exact h
   have:=au (i:=i+1) this
   omega
theorem arC(c:Bool)(l:List Int)(v:Int)(ao:l.length≤900):a0 Tryz.prog pol 130 [.aP c 1 (l.map I),I v]=some (I (qt v 0 l)):=by
 refine cK 1000 1 apI (bH rfl) ?_
 simp only[L7,go_sem]
 refine k4 l I (step:=fun i x (_:Unit)=>if x=v then dQ.out ((i:Nat):Int)else dQ.go ()) (fin:=fun _=>-1)
  (St:=fun i _ e h=>(e 0=.t (.aP c 1 (l.map I))∧e 1=.t (I v)∧e 7=.t (I (l.length:Nat))∧e 8=.t (I (i:Nat)))∧h=[])
  (Ex:=fun r x e h=>r = -1∧x=.exit 0∨x=.ret∧e 4=.t (I r)) (s:=()) (by omega) ?_ ?_ (by omega) ?_ ?_
 ·intro i x _ e h Y R hm hi U bx aB hw ⟨J,aY⟩ an
  subst aY
  by_cases q:x=v
  ·have d:decide (v=x)=true:=bY q.symm
   rw[a6 q,lg]at an
   simp only[S1,Ih,go_sem,J,bx,aB,d]
   all_goals(refine an _ _ _ (.inr ?_);simp only[go_sem])
  ·have d:decide (v=x)=false:=bA (fun e=>q e.symm)
   rw[a2 q,g6]at an
   simp only[S1,Ih,go_sem,J,bx,aB,hw,d]
   all_goals(refine an _ _ ⟨?_,rfl⟩;simp only[go_sem,J,hw])
 ·intro _ e h Y R aB ⟨J,aY⟩ an
  subst aY
  simp only[S1,Ih,go_sem,J,aB]
  all_goals(refine an _ _ _ (.inl ?_);simp only[go_sem])
 ·simp only[go_sem]
 ·intro x e h U
  have aI:∀(l:List Int) (i:Nat) (u:Unit),gJ (fun i x (_:Unit)=>if x=v then dQ.out ((i:Nat):Int)else dQ.go ()) (fun _=>-1) i l u=qt v i l:=by
   intro l
   induction l with
   | nil=>intro i u;rfl
   | cons x l au =>
    intro i u
    rw[qt]
    by_cases q:x=v
    ·rw[q3 (r:=((i:Nat):Int)) (by rw[a6 q]),a6 q]
    ·rw[ng (s':=()) (by rw[a2 q]),au,a2 q]
  rw[aI]at U
  rcases U with⟨ab,rfl⟩|⟨rfl,aW⟩
  ·rw[ab]
   simp only[L7,go_sem]
  ·simp only[L7,go_sem,aW]
theorem arB(c:Bool)(l:List Bool)(ao:l.length≤900):a0 Tryz.prog pol 108 [.aP c 1 (l.map B),B false]=some (I (qt false 0 l)):=by
 refine cK 1000 1 ape (bH rfl) ?_
 simp only[L1,go_sem]
 refine k4 l B (step:=fun i x (_:Unit)=>if x=false then dQ.out ((i:Nat):Int)else dQ.go ()) (fin:=fun _=>-1)
  (St:=fun i _ e h=>(e 0=.t (.aP c 1 (l.map B))∧e 1=.t (B false)∧e 7=.t (I (l.length:Nat))∧e 8=.t (I (i:Nat)))∧h=[])
  (Ex:=fun r x e h=>r = -1∧x=.exit 0∨x=.ret∧e 4=.t (I r)) (s:=()) (by omega) ?_ ?_ (by omega) ?_ ?_
 ·intro i x _ e h Y R hm hi U bx aB hw ⟨J,aY⟩ an
  subst aY
  cases x with
  | false =>
   rw[a6 rfl,lg]at an
   simp only[Sy,H4,go_sem,J,bx,aB]
   all_goals(refine an _ _ _ (.inr ?_);simp only[go_sem])
  | true =>
   rw[a2 (by simp),g6]at an
   simp only[Sy,H4,go_sem,J,bx,aB,hw]
   all_goals(refine an _ _ ⟨?_,rfl⟩;simp only[go_sem,J,hw])
 ·intro _ e h Y R aB ⟨J,aY⟩ an
  subst aY
  simp only[Sy,H4,go_sem,J,aB]
  all_goals(refine an _ _ _ (.inl ?_);simp only[go_sem])
 ·simp only[go_sem]
 ·intro x e h U
  have aI:∀(l:List Bool) (i:Nat) (u:Unit),gJ (fun i x (_:Unit)=>if x=false then dQ.out ((i:Nat):Int)else dQ.go ()) (fun _=>-1) i l u=qt false i l:=by
   intro l
   induction l with
   | nil=>intro i u;rfl
   | cons x l au =>
    intro i u
    rw[qt]
    by_cases q:x=false
    ·rw[q3 (r:=((i:Nat):Int)) (by rw[a6 q]),a6 q]
    ·rw[ng (s':=()) (by rw[a2 q]),au,a2 q]
  rw[aI]at U
  rcases U with⟨ab,rfl⟩|⟨rfl,aW⟩
  ·rw[ab]
   simp only[L1,go_sem]
  ·simp only[L1,go_sem,aW]
theorem ajt(c:Bool)(l:List Bool)(ao:l.length≤900):a0 Tryz.prog pol 71 [.aP c 1 (l.map B),B false]=some (B (decide (false∈l))):=by
 have bB:=arB c l ao
 have d:decide (0≤qt false 0 l)=decide (false∈l):=by
  by_cases h:false∈l
  ·have:=aaq (i:=0) h
   rw[bY h,bY (by omega:0≤qt false 0 l)]
  ·rw[bA h,aar h];rfl
 refine cK 1 1 aqT (bH rfl) ?_
 simp only[ace,go_sem,bB,d]
def iI(m:List Int)(n:Int):Int:=m[n.toNat]?.getD 0
def tg(m:List Int)(l:dK):List Int :=
 let fR:=m.set l.a.toNat (iI m l.a+1)
 fR.set l.b.toNat (iI fR l.b+1)
def pG(t:bR):List Int:=t.cd.foldl tg (List.replicate t.nodes.toNat 0)
def DB(t:bR):Bool:=(List.range t.kM.length).all (fun n=>!(h9 t n) || decide (1≤iI (pG t) (n:Nat)∧iI (pG t) (n:Nat)≤2))
def CH(t:bR):Prop:=(2≤t.nodes∧t.nodes≤12)∧(t.kM.length:Int)=t.nodes∧t.cd.length≤24
instance(t:bR):Decidable (CH t):=inferInstanceAs (Decidable (_∧_))
def g0(t:bR):Bool:=decide (CH t) && (yD t && (DB t && !(decide (false∈tU t 0 (fun _=>false)))))
theorem aeL{t:bR}(h:yD t=true){i:Nat}(hi:i<t.cd.length):sC t i (gw t i)=true:=jY.1 h i (by simp[hi])
theorem ayN{t:bR}(h:yD t=true):∀ l∈t.cd,Be t l:=by
 intro l ao
 obtain⟨i,hi,rfl⟩:=List.mem_iff_getElem.1 ao
 have:=aeL h hi
 simp only[sC,fe]at this
 have ad:=ka this.1
 simpa[gw,hi,Be]using ad
theorem Sp{m:List Int}{n:Int}(h:n.toNat<m.length):((m.map I).map ah.t)[n.toNat]? = some (.t (I (iI m n))):=Ci (enc:=I) (by simp only[iI];rw[fC h];rfl)
theorem aan{m:List Int}{n:Int}{lo hi:Int}(h:∀ x∈m,lo≤x∧x≤hi)(bo:lo≤0∧0≤hi):lo≤iI m n∧iI m n≤hi:=by
 simp only[iI]
 cases aE:m[n.toNat]? with
 | none=>exact bo
 | some x=>exact h x (gp aE)
theorem aez{m:List Int}{i:Nat}{y lo hi:Int}(h:∀ x∈m,lo≤x∧x≤hi)(ar:lo≤y∧y≤hi+1):∀ x∈m.set i y,lo≤x∧x≤hi+1:=by
 intro x U
 rcases JV U with ad|rfl
 ·have:=h x ad;omega
 ·exact ar
theorem aiZ{c1 c2:Bool}{t:bR}(h:¬ CH t):a0 Tryz.prog pol 44 [fY c1 c2 t]=some (I 260):=by
 refine cK 1 1 TD (bH rfl) ?_
 simp only[CH]at h
 by_cases ad:t.nodes<2
 ·have aT:=bY ad
  (repeat' first|simp only[uX,go_sem,aT]|with_reducible first|refine aZ fun _=>?_|refine a1 ?_|fail)
 have aT:=bA ad
 by_cases ag:12<t.nodes
 ·have aW:=bY ag
  (repeat' first|simp only[uX,go_sem,aT,aW]|with_reducible first|refine aZ fun _=>?_|refine a1 ?_|fail)
 have aW:=bA ag
 by_cases aJ:(t.kM.length:Int)=t.nodes
 rotate_left
 ·have bw:=bA aJ
  (repeat' first|simp only[uX,go_sem,aT,aW,bw]|with_reducible first|refine aZ fun _=>?_|refine a1 ?_|fail)
 have bw:=bY aJ
 have cB:decide ((24:Int)<(t.cd.length:Nat))=true:=bY (by omega)
 (repeat' first|simp only[uX,go_sem,aT,aW,bw,cB]|with_reducible first|refine aZ fun _=>?_|refine a1 ?_|fail)
theorem aiX(t:bR)(az:∀ l∈t.cd,Be t l)(ab:t.cd.length≤24)(N:Nat)(bG:(N:Int)=t.nodes)(dW:T)(c2:Bool)(fT:eY)(aR:Nat)(aw:100<aR)(R:cW→aM→aj→Prop)(e:aM)
  (he:e 1=.t dW∧e 3=.ms 0 N 0 N 1 true∧e 37=.t (.aP c2 4 (t.cd.map dH))∧e 38=.t (I (t.cd.length:Nat))∧e 39=.t (I 0))
  (bk:∀ e aG,aG≤N→(e 1=.t dW∧e 3=.ms 0 N 0 N 1 true)→R (.exit 0) e [.row 1 (((t.cd.foldl tg (List.replicate N 0)).map I).map .t) aG]) :
  gP 1 (some [1,3,37,38,39]) (c6 Tryz.prog pol (a0 Tryz.prog pol) fT aR 44 TE) R aR e [.row 1 (((List.replicate N (0:Int)).map I).map .t) 0]:=by
 refine k4 t.cd dH (step:=fun i l m=>.go (tg m l)) (fin:=id)
  (St:=fun i m e h=>(e 1=.t dW∧e 3=.ms 0 N 0 N 1 true∧e 37=.t (.aP c2 4 (t.cd.map dH))∧e 38=.t (I (t.cd.length:Nat))∧e 39=.t (I (i:Nat)))∧m.length=N∧(∀ x∈m,0≤x∧x≤2*(i:Int))∧∃ aG,aG≤N∧h=[.row 1 ((m.map I).map .t) aG])
  (Ex:=fun m x e h=>(e 1=.t dW∧e 3=.ms 0 N 0 N 1 true)∧x=.exit 0∧∃ aG,aG≤N∧h=[.row 1 ((m.map I).map .t) aG]) (s:=List.replicate N 0) (by omega) ?_ ?_ (by omega) ⟨he,by simp,fun x U=>by have:=(List.mem_replicate.1 U).2;omega,0,by omega,rfl⟩ ?_
 ·intro i l m e h Y R hm hi U bx aB hw ⟨J,ao,kH,aG,bN,aY⟩ an
  subst aY
  simp only[g6]at an
  obtain⟨cP,dc,fi⟩:=az l hm
  have a3:0≤l.a:=cP.1
  have a7:0≤l.b:=dc.1
  have cz:l.a.toNat<N:=by omega
  have eJ:l.b.toNat<N:=by omega
  have cg:=Sp (m:=m) (n:=l.a) (by omega)
  have cN:=aan (n:=l.a) kH (by omega)
  have s1:=map_set (enc:=I) (l:=m) (i:=l.a.toNat) (x:=iI m l.a+1)
  have A7:=aez (i:=l.a.toNat) (y:=iI m l.a+1) kH (by omega)
  have cI:IntKind.i64.wrap (iI m l.a+1)=iI m l.a+1:=wrap_i64 (by omega) (by omega)
  have fA:(m.set l.a.toNat (iI m l.a+1)).length=N:=by simpa using ao
  simp only[tg]at an
  generalize h5:m.set l.a.toNat (iI m l.a+1)=fR at *
  have c5:=Sp (m:=fR) (n:=l.b) (by omega)
  have db:=aan (n:=l.b) A7 (by omega)
  have s2:=map_set (enc:=I) (l:=fR) (i:=l.b.toNat) (x:=iI fR l.b+1)
  have PA:=aez (i:=l.b.toNat) (y:=iI fR l.b+1) A7 (by omega)
  have dZ:IntKind.i64.wrap (iI fR l.b+1)=iI fR l.b+1:=wrap_i64 (by omega) (by omega)
  have eC:(fR.set l.b.toNat (iI fR l.b+1)).length=N:=by simpa using fA
  generalize fR.set l.b.toNat (iI fR l.b+1)=gR at *
  generalize iI fR l.b=z at *
  generalize iI m l.a=v at *
  (repeat' first|simp only[abF,Mu,go_sem,J,bx,oq,aB,hw,a3,a7,cz,eJ,cg,s1,cI,c5,s2,dZ,ao,fA,eC,bN]|with_reducible first|refine aZ fun _=>?_|refine a1 ?_|fail)
  all_goals(refine an _ _ ⟨?_,eC,fun x U=>by have:=PA x U;omega,N,bP _,?_⟩<;>simp only[go_sem,J,hw])
 ·intro m e h Y R aB ⟨J,ao,kH,aG,bN,aY⟩ an
  subst aY
  simp only[abF,Mu,go_sem,J,aB]
  all_goals(refine an _ _ _ ⟨?_,rfl,aG,bN,rfl⟩;simp only[go_sem,J,id])
 ·intro x e h ⟨ad,ag,aG,bN,aJ⟩
  rw[Qj]at aJ
  subst ag aJ
  exact bk _ aG bN ad
theorem ajJ(t:bR):(pG t).length=t.nodes.toNat:=by
 have:∀(ls:List dK) (m:List Int),(ls.foldl tg m).length=m.length:=by
  intro ls
  induction ls with
  | nil=>intro m;rfl
  | cons l ls au=>intro m;rw[p8,au];simp[tg]
 rw[pG,this];simp
theorem ai0(t:bR)(ao:t.kM.length=(pG t).length)(eC:t.kM.length≤100)(N:Nat)(bG:N=(pG t).length)(aG:Nat)(bN:aG≤N)(dW:T)(c1:Bool)(fT:eY)(aR:Nat)(aw:100<aR)(R:cW→aM→aj→Prop)(e:aM)
  (he:e 1=.t dW∧e 3=.ms 0 N 0 N 1 true∧e 59=.t (.aP c1 1 (t.kM.map B))∧e 60=.t (I (t.kM.length:Nat))∧e 61=.t (I 0))
  (ad:DB t=true→∀ e h,e 1=.t dW→R (.exit 2) e h) (ag:DB t=false→∀ e h,e 2=.t (I 260)→R .ret e h) :
  gP 1 (some [1,3,59,60,61]) (c6 Tryz.prog pol (a0 Tryz.prog pol) fT aR 44 TF) R aR e [.row 1 (((pG t).map I).map .t) aG]:=by
 refine k4 t.kM B (step:=fun n _ (_:Unit)=>if(!(h9 t n) || decide (1≤iI (pG t) (n:Nat)∧iI (pG t) (n:Nat)≤2))=true then dQ.go ()else dQ.out false) (fin:=fun _=>true)
  (St:=fun i _ e h=>(e 1=.t dW∧e 3=.ms 0 N 0 N 1 true∧e 59=.t (.aP c1 1 (t.kM.map B))∧e 60=.t (I (t.kM.length:Nat))∧e 61=.t (I (i:Nat)))∧h=[.row 1 (((pG t).map I).map .t) aG])
  (Ex:=fun r x e h=>r=true∧x=.exit 2∧e 1=.t dW∨r=false∧x=.ret∧e 2=.t (I 260)) (s:=()) (by omega) ?_ ?_ (by omega) ⟨he,rfl⟩ ?_
 ·intro i b _ e h Y R hm hi U bx aB hw ⟨J,aY⟩ an
  subst aY
  have ab:h9 t i=b:=by simp[h9,U]
  rw[ab]at an
  have Rw:i<N:=by omega
  have cg:=Sp (m:=pG t) (n:=(i:Nat)) (by rw[ld];omega)
  rw[ld]at cg
  have BC:(pG t).length=N:=bG.symm
  generalize iI (pG t) (i:Nat)=v at *
  cases b with
  | false =>
   rw[a6 (by simp),g6]at an
   (repeat' first|simp only[Iy,B3,go_sem,J,bx,aB,hw]|with_reducible first|refine aZ fun _=>?_|refine a1 ?_|fail)
   all_goals(refine an _ _ ⟨?_,rfl⟩;simp only[go_sem,J,hw])
  | true =>
   by_cases a3:v<1
   ·have d1:=bY a3
    rw[a2 (by simp;omega),lg]at an
    (repeat' first|simp only[Iy,B3,go_sem,J,bx,aB,hw,Rw,cg,BC,bN,d1]|with_reducible first|refine aZ fun _=>?_|refine a1 ?_|fail)
    all_goals(refine an _ _ _ (.inr ?_);simp only[go_sem])
   ·have d1:=bA a3
    by_cases a7:2<v
    ·have d2:=bY a7
     rw[a2 (by simp;omega),lg]at an
     (repeat' first|simp only[Iy,B3,go_sem,J,bx,aB,hw,Rw,cg,BC,bN,d1,d2]|with_reducible first|refine aZ fun _=>?_|refine a1 ?_|fail)
     all_goals(refine an _ _ _ (.inr ?_);simp only[go_sem])
    ·have d2:=bA a7
     rw[a6 (by simp;omega),g6]at an
     (repeat' first|simp only[Iy,B3,go_sem,J,bx,aB,hw,Rw,cg,BC,bN,d1,d2]|with_reducible first|refine aZ fun _=>?_|refine a1 ?_|fail)
     all_goals(refine an _ _ ⟨?_,rfl⟩;simp only[go_sem,J,hw])
 ·intro _ e h Y R aB ⟨J,aY⟩ an
  subst aY
  simp only[Iy,B3,go_sem,J,aB]
  all_goals(refine an _ _ _ (.inl ?_);simp only[go_sem,J])
 ·intro x e h U
  rw[Yr,← sZ]at U
  rcases U with⟨ab,rfl,aT⟩|⟨ab,rfl,aW⟩
  ·exact ad ab e h aT
  ·exact ag ab e h aW
theorem afM(c1 c2:Bool)(t:bR):a0 Tryz.prog pol 44 [fY c1 c2 t]=some (I (if g0 t=true then 0 else 260)):=by
 by_cases bl:CH t
 rotate_left
 ·rw[aiZ bl,a2 (by simp[g0,bA bl])]
 have zS:=bl
 obtain⟨⟨jy,jz⟩,jA,Ou⟩:=bl
 have aT:decide (t.nodes<2)=false:=bA (by omega)
 have aW:decide ((12:Int)<t.nodes)=false:=bA (by omega)
 have bw:decide ((t.kM.length:Int)=t.nodes)=true:=bY jA
 have cB:decide ((24:Int)<(t.cd.length:Nat))=false:=bA (by omega)
 have bB:=ayM c1 c2 t jA (by omega)
 have aC:g0 t=(yD t && (DB t && !(decide (false∈tU t 0 (fun _=>false))))):=by rw[g0,bY zS,ur]
 cases J:yD t with
 | false =>
  rw[J]at bB
  rw[a2 (by rw[aC,J];simp)]
  refine cK 1 1 TD (bH rfl) ?_
  (repeat' first|simp only[uX,go_sem,aT,aW,bw,cB,bB]|with_reducible first|refine aZ fun _=>?_|refine a1 ?_|fail)
 | true =>
  rw[J]at bB
  have az:=ayN J
  obtain⟨N,bG⟩:∃ N:Nat,t.nodes=(N:Int):=⟨t.nodes.toNat,by omega⟩
  have DS:t.nodes.toNat=N:=by omega
  have fr:8*N≤eQ:=by rw[s3];exact l9 (by omega) (by omega)
  have Bo:N≤9223372036854775807:=by omega
  have ZY:0≤t.nodes:=by omega
  have Rh:t.cd.foldl tg (List.replicate N 0)=pG t:=by rw[pG,DS]
  have Ll:=ajJ t
  rw[DS]at Ll
  have aO:=awR c1 c2 t az Ou (by omega) 0 (by omega) (List.replicate 24 false) rfl
  have anh:(fun i:Nat=>(List.replicate 24 false:List Bool)[i]?.getD false)=fun _=>false:=by
   funext i
   rw[s7]
   split<;>rfl
  rw[anh]at aO
  have jo:=VB t 0 (fun _=>false)
  have ed:=ajt true (tU t 0 (fun _=>false)) (by omega)
  simp only[pB,Gd,gz,nB,Int.natCast_zero]at aO
  generalize tU t 0 (fun _=>false)=qI at *
  have RH:List.replicate N (ah.t (T.aA (Value.int IntKind.i64 0)))=((List.replicate N (0:Int)).map I).map .t:=by simp
  refine cK 1000 1 TD (bH rfl) ?_
  (repeat' first|simp only[uX,go_sem,aT,aW,bw,cB,bB,fr,Bo,ZY,DS]|with_reducible first|refine aZ fun _=>?_|refine a1 ?_|fail)
  rw[RH]
  refine aiX t az Ou N bG.symm (.ip (dO c1 c2 t)) c2 _ _ (by omega) _ _ (by simp only[go_sem]) ?_
  intro e aG bN he
  rw[Rh]
  simp only[uX,go_sem,he]
  refine ai0 t (by omega) (by omega) N Ll.symm aG bN (.ip (dO c1 c2 t)) c1 _ _ (by omega) _ _ (by simp only[go_sem,he]) ?_ ?_
  ·intro aF e h he
   cases af:decide (false∈qI)with
   | false =>
    rw[af]at ed
    rw[a6 (by rw[aC,J,aF,af];rfl)]
    simp only[uX,go_sem,he,aO,ed]
   | true =>
    rw[af]at ed
    rw[a2 (by rw[aC,J,aF,af];simp)]
    simp only[uX,go_sem,he,aO,ed]
  ·intro aF e h he
   rw[a2 (by rw[aC,J,aF];simp)]
   simp only[uX,go_sem,he]
theorem Ky{c1 c2:Bool}{t:bR}(h:g0 t=true):a0 Tryz.prog pol 44 [fY c1 c2 t]=some (I 0):=by rw[afM,a6 h]
def sg(t:bR)(p:Nat):Int:=if p % 2=0 then(gw t (p / 2)).a else(gw t (p / 2)).b
def Az(t:bR)(p:Nat):Int:=if p % 2=0 then(gw t (p / 2)).b else(gw t (p / 2)).a
def yq(t:bR)(n:Int):List Nat:=(List.range (2*t.cd.length)).filter (fun p=>decide (sg t p=n))
abbrev aj6(l:dK)(p:Nat):List T:=[I l.a,I l.b,I l.aK,I l.kE,I (p:Nat)]
abbrev aka(l:dK)(p:Nat):T:=.agg (aj6 l p)
abbrev eI(n:Nat):Int:=(n:Int)
theorem V6(p:Nat):Int.tmod (p:Int) 2=((p % 2:Nat):Int):=rfl
theorem azp(p:Nat):Int.tdiv (p:Int) 2=((p / 2:Nat):Int):=rfl
theorem mw{t:bR}(h:g0 t=true):CH t:=by
 simp only[g0,fe]at h
 exact ka h.1
theorem Nc{U:aj}{q:Nat}:∀(a b cb bS:aj),b5 (dk U (bV q)) a=some cb→b5 (dk U (bV q)) b=some bS→b5 (dk U (bV q)) (a++b)=some (cb++bS):=by
 intro a
 induction a with
 | nil=>intro b cb bS ad ag;simp only[b5,Option.some.injEq]at ad;subst ad;simpa using ag
 | cons y a au =>
  intro b cb bS ad ag
  simp only[b5]at ad
  cases Rq:dk U (bV q) y with
  | none=>rw[Rq]at ad;simp at ad
  | some z =>
   rw[Rq]at ad
   cases hm:b5 (dk U (bV q)) a with
   | none=>rw[hm]at ad;simp at ad
   | some w =>
    rw[hm]at ad
    simp only[Option.some.injEq]at ad
    subst ad
    simp only[dS,b5,Rq,au b w bS hm ag]
section
variable{df:Type}(av:df→aj)(N:Nat)(bG:∀ s,(av s).length=N)(ee:df→Nat→df)(bn aR o:Nat)(Iv:Nat→df→Prop)(t:bR)
 (Bw:∀ p s,Iv p s→Iv (p+1) (ee s p))
 (ar:∀(s:df) (p:Nat) (X:aj) (Q:ah→aj→Prop),p<2*t.cd.length→Iv p s→(∀ cw,Q (.t (B true)) (av (ee s p)++X++cw))→ej (inl Tryz.prog pol (a0 Tryz.prog pol) aR bn (.bF o) [.t (aka (gw t (p / 2)) p)] (av s++X)) Q)
 (fm:∀(s:df) (h:aj) (q:Nat),N≤q→b5 (dk h (bV q)) (av s)=some (av s)) (qm:o<N)
include bG Bw ar fm qm
end
theorem Bj{k:Nat}{enc:Int→T}{l:List Int}{h:aj}{p:Nat→Bool}:dk h p (ev k enc l)=some (ev k enc l):=by simp only[ev,dk,zj,cQ]
def G1(s:Nat × Nat):dQ (Nat × Nat) Nat:=if s.2=0 then .out s.1 else .go (s.2,s.1 % s.2)
theorem alF:∀(b a m:Nat),b<m→Cx G1 m (a,b)=some (Nat.gcd a b):=by
 intro b
 induction b using Nat.strongRecOn with
 | _ b au =>
  intro a m hm
  obtain⟨k,rfl⟩:∃ k,m=k+1:=⟨m-1,by omega⟩
  rw[Cx,G1]
  by_cases ab:b=0
  ·subst ab;simp
  ·have aB:=mF a (show b>0 by omega)
   rw[a2 ab]
   show Cx G1 k (b,a % b)=_
   rw[au (a % b) aB b k (by omega),Nat.gcd_comm a b,Nat.gcd_rec b a,Nat.gcd_comm]
theorem YE(a b:Nat)(ae:a<1000000)(ab:b<1000000):a0 Tryz.prog pol 126 [I (a:Nat),I (b:Nat)]=some (I ((Nat.gcd a b:Nat):Int)):=by
 refine cK 1000001 1 apC (bH rfl) ?_
 simp only[SS,go_sem]
 refine ate (step:=G1) (r:=Nat.gcd a b)
  (St:=fun s e ai=>(e 0=.t (I ((s.1:Nat):Int))∧e 1=.t (I ((s.2:Nat):Int)))∧ai=[])
  (Ex:=fun r x e ai=>(e 0=.t (I ((r:Nat):Int)))∧x=.exit 0∧ai=[]) ?_ ?_ 1000001 (a,b) _ _ (alF b a _ (by omega)) ?_
 ·rintro⟨p,q⟩ e ai Y R ⟨J,aY⟩ an
  subst aY
  unfold G1 at an
  by_cases aE:q=0
  ·subst aE
   rw[a6 rfl,lg]at an
   have d:decide (((0:Nat):Int)≠0)=false:=rfl
   simp only[aaX,L5,go_sem,J,d]
   all_goals(refine an _ _ _ ⟨?_,rfl,rfl⟩;simp only[go_sem,J])
  ·rw[a2 aE,g6]at an
   have d:decide (((q:Nat):Int)≠0)=true:=bY (by omega)
   have ft:((q:Nat):Int)≠0:=by omega
   have lZ:((p:Nat):Int).tmod ((q:Nat):Int)=((p % q:Nat):Int):=by rw[jZ (by omega),w5]
   (repeat' first|simp only[aaX,L5,go_sem,J,d,ft,lZ]|with_reducible first|refine aZ fun _=>?_|refine a1 ?_|fail)
   all_goals(refine an _ _ ⟨?_,rfl⟩;simp only[go_sem,J])
 ·rintro x e ai ⟨ad,rfl,rfl⟩
  simp only[SS,go_sem,ad]
 ·refine⟨?_,rfl⟩
  simp only[go_sem]
theorem mod_eq(a b:Int)(ab:0<b):((a.tmod b)+b).tmod b=a % b:=by
 have ad:=Gf a ab
 rw[jZ (by omega),Int.add_emod_right,Int.tmod_def,OV]
theorem atL(a b:Int)(ae:-1099511627776≤a∧a≤1099511627776)(ab:0<b∧b<1000000):a0 Tryz.prog pol 120 [I a,I b]=some (I (a % b)):=by
 have ad:=Gf a ab.1
 have ag:=JY a ab.1
 have w:IntKind.i64.wrap (a.tmod b+b)=a.tmod b+b:=wrap_i64 (by omega) (by omega)
 have ft:b≠0:=by omega
 have e:=mod_eq a b ab.1
 refine cK 1 1 apu (bH rfl) ?_
 simp only[aaR,go_sem,w,ft,e]
structure kO where
 aK:Int
 ec:Int
 kr:Int
 deriving DecidableEq
abbrev lx(s:kO):T:=.agg [I s.aK,I s.ec,I s.kr]
abbrev yE(s:kO):Prop:=1≤s.aK∧s.aK≤960∧0≤s.ec∧s.ec<s.aK∧1≤s.kr∧s.kr≤s.aK
theorem VO(s:kO):a0 Tryz.prog pol 90 [lx s]=some (I (if yE s then 0 else 330)):=by
 refine cK 1 1 arc (bH rfl) ?_
 obtain⟨p,f,l⟩:=s
 by_cases h:yE ⟨p,f,l⟩
 ·obtain⟨ad,ag,aJ,bL,dC,fQ⟩:=id h
  have d1:decide (p<1)=false:=bA (by simp only at ad;omega)
  have d2:decide (960<p)=false:=bA (by simp only at ag;omega)
  have d3:decide (f<0)=false:=bA (by simp only at aJ;omega)
  have d4:decide (p≤f)=false:=bA (by simp only at bL;omega)
  have d5:decide (l<1)=false:=bA (by simp only at dC;omega)
  have d6:decide (p<l)=false:=bA (by simp only at fQ;omega)
  rw[a6 h]
  (repeat' first|simp only[Ud,go_sem,d1,d2,d3,d4,d5,d6]|with_reducible first|refine aZ fun _=>?_|refine a1 ?_|fail)
 ·rw[a2 h]
  have key:p<1∨960<p∨f<0∨p≤f∨l<1∨p<l:=by
   simp only[yE]at h
   omega
  generalize jL:decide (p<1)=d1
  generalize qg:decide (960<p)=d2
  generalize Hl:decide (f<0)=d3
  generalize Zh:decide (p≤f)=d4
  generalize Zi:decide (l<1)=d5
  generalize Zj:decide (p<l)=d6
  cases d1<;>cases d2<;>cases d3<;>cases d4<;>cases d5<;>cases d6
  all_goals first
   | (exfalso;simp only[oi]at jL qg Hl Zh Zi Zj;omega)
   | ((repeat' first|simp only[Ud,go_sem,jL,qg,Hl,Zh,Zi,Zj]|with_reducible first|refine aZ fun _=>?_|refine a1 ?_|fail))
theorem NZ{α:Type}{enc:α→T}{h:aj}{p:Nat→Bool}{o k aG n d:Nat}{c:Bool}{l:List α}(av:p o=true)(al:h[o]? = some (.row k ((l.map enc).map .t) aG))(hm:aG≤n)(aw:n=l.length) :
  snap h p (d+2) (.ms o n 0 n k c)=some (.aP c k (l.map enc)):=by
 subst aw
 have he:gU h k (.ms o l.length 0 l.length k c)=some ((l.map enc).map .t):=by
  rw[GO (by rw[al];exact⟨rfl,by simp,hm⟩),al];rfl
 simp only[av,cQ,snap,he,UY]
theorem K4{α:Type}{enc:α→T}{k aG:Nat}{l:List α}{h:aj}{p:Nat→Bool}:dk h p (.row k ((l.map enc).map .t) aG)=some (.row k ((l.map enc).map .t) aG):=by simp only[dk,zj,cQ]
def qL(a b:kO):Nat:=Nat.gcd a.aK.toNat b.aK.toNat
def CC(a b:kO):Bool:=!decide (a=b) && (decide (a.kr≤(b.ec-a.ec) % (qL a b:Nat)) && decide ((b.ec-a.ec) % (qL a b:Nat)≤(qL a b:Nat)-b.kr))
theorem aeu{a b:kO}(ae:yE a):0<qL a b∧qL a b≤960:=by
 have h:0<a.aK.toNat:=by have:=ae.1;omega
 have ag:=Nat.le_of_dvd h (Pj a.aK.toNat b.aK.toNat)
 exact⟨F0 _ h,by have:=ae.2.1;unfold qL;omega⟩
section
variable(a b:kO)(ae:yE a)(ab:yE b)
include ae ab
theorem axu:a0 Tryz.prog pol 119 [lx a,lx b]=some (.ch [I a.kr,I ((qL a b:Nat)-b.kr),I (qL a b:Nat)]):=by
 obtain⟨cJ,cU,dU,gA,lI,zd⟩:=id ae
 obtain⟨cN,db,eG,nb,ahn,aho⟩:=id ab
 obtain⟨cg,c5⟩:=aeu (b:=b) ae
 have Ab:=YE a.aK.toNat b.aK.toNat (by omega) (by omega)
 rw[uw (by omega),uw (by omega)]at Ab
 change a0 Tryz.prog pol 126 [I a.aK,I b.aK]=some (I ((qL a b:Nat):Int))at Ab
 have w:IntKind.i64.wrap (((qL a b:Nat):Int)-b.kr)=((qL a b:Nat):Int)-b.kr:=wrap_i64 (by omega) (by omega)
 generalize qL a b=g at *
 obtain⟨p,f,l⟩:=a
 obtain⟨dc,f2,gQ⟩:=b
 refine cK 1 1 apt (bH rfl) ?_
 (repeat' first|simp only[aaO,go_sem,Ab,w]|with_reducible first|refine aZ fun _=>?_|refine a1 ?_|fail)
theorem ag1:a0 Tryz.prog pol 91 [lx a,lx b]=some (B (CC a b)):=by
 obtain⟨cJ,cU,dU,gA,lI,zd⟩:=id ae
 obtain⟨cN,db,eG,nb,ahn,aho⟩:=id ab
 obtain⟨cg,c5⟩:=aeu (b:=b) ae
 have Ac:=axu a b ae ab
 have IU:=atL (b.ec-a.ec) ((qL a b:Nat):Int) (by omega) (by omega)
 have w:IntKind.i64.wrap (b.ec-a.ec)=b.ec-a.ec:=wrap_i64 (by omega) (by omega)
 have aF:decide (a.aK=b.aK∧a.ec=b.ec∧a.kr=b.kr)=decide (a=b):=by
  apply y2.2
  constructor
  ·rintro⟨ad,ag,aJ⟩;cases a;cases b;simp_all
  ·rintro rfl;exact⟨rfl,rfl,rfl⟩
 unfold CC
 generalize qL a b=g at *
 generalize (b.ec-a.ec) % ((g:Nat):Int)=d at *
 generalize decide (a=b)=q at *
 obtain⟨p,f,l⟩:=a
 obtain⟨dc,f2,gQ⟩:=b
 generalize ko:decide (l≤d)=dW
 generalize k3:decide (d≤((g:Nat):Int)-gQ)=fo
 simp only at ko k3 aF w Ac IU ⊢
 refine cK 1 1 ard (bH rfl) ?_
 cases q
 ·cases dW<;>cases fo
  all_goals((repeat' first|simp only[Ue,go_sem,aF,Ac,IU,w,ko,k3]|with_reducible first|refine aZ fun _=>?_|refine a1 ?_|fail))
 ·simp only[Ue,go_sem,aF]
theorem afK:a0 Tryz.prog pol 54 [lx a,lx b]=some (.ch [B (CC a b),I 0]):=by
 have bB:=VO a
 have aO:=VO b
 rw[a6 ae]at bB
 rw[a6 ab]at aO
 have ed:=ag1 a b ae ab
 refine cK 1 1 aqC (bH rfl) ?_
 (repeat' first|simp only[abR,go_sem,bB,aO,ed]|with_reducible first|refine aZ fun _=>?_|refine a1 ?_|fail)
end
theorem aiV(c:Bool)(l:List kO)(ao:l.length≤32)(h:∀ s∈l,yE s):a0 Tryz.prog pol 117 [.aP c 3 (l.map lx)]=some (I 0):=by
 have d:decide (32<((l.length:Nat):Int))=false:=bA (by omega)
 refine cK 1000 1 apr (bH rfl) ?_
 simp only[SI,go_sem,d,bJ]
 refine k4 l lx (step:=fun _ s (u:Unit)=>dQ.go u) (fin:=id)
  (St:=fun i _ e ai=>(e 9=.t (.aP c 3 (l.map lx))∧e 10=.t (I (l.length:Nat))∧e 11=.t (I (i:Nat)))∧ai=[])
  (Ex:=fun _ x e ai=>x=.exit 0∧ai=[]) (s:=()) (by omega) ?_ ?_ (by omega) ?_ ?_
 ·intro i s _ e ai Y R hm hi U bx aB hw ⟨J,aY⟩ an
  subst aY
  simp only[g6]at an
  have bB:=VO s
  rw[a6 (h s hm)]at bB
  simp only[aaM,L4,go_sem,J,aB,hw,bx,bB]
  all_goals(refine an _ _ ⟨?_,rfl⟩;simp only[go_sem,J,hw])
 ·intro _ e ai Y R aB ⟨J,aY⟩ an
  subst aY
  simp only[aaM,L4,go_sem,J,aB]
  all_goals exact an _ _ _ ⟨rfl,rfl⟩
 ·refine⟨?_,rfl⟩
  simp only[go_sem,bJ]
 ·rintro x e ai ⟨rfl,rfl⟩
  simp only[SI,go_sem]
def kF(m n:Nat):Nat:=m / Nat.gcd m n*n
def pJ(m:Nat):List Nat→Nat
 | []=>m
 | n::r=>if 960<kF m n then kF m n else pJ (kF m n) r
theorem ak9(c:Bool)(l:List Nat)(ao:l.length≤32)(h:∀ n∈l,1≤n∧n≤960):a0 Tryz.prog pol 118 [I 960,.aP c 1 (l.map (fun n=>I ((n:Nat):Int)))]=some (I ((pJ 1 l:Nat):Int)):=by
 refine cK 1000 1 aps (bH rfl) ?_
 simp only[SJ,go_sem,bJ]
 refine k4 l (fun n=>I ((n:Nat):Int)) (step:=fun _ n (m:Nat)=>if 960<kF m n then dQ.out (kF m n)else dQ.go (kF m n)) (fin:=id)
  (St:=fun i m e ai=>(e 0=.t (I 960)∧e 5=.t (I ((m:Nat):Int))∧e 8=.t (.aP c 1 (l.map (fun n=>I ((n:Nat):Int))))∧e 9=.t (I (l.length:Nat))∧e 10=.t (I (i:Nat)))∧(1≤m∧m≤960)∧ai=[])
  (Ex:=fun m x e ai=>e 5=.t (I ((m:Nat):Int))∧x=.exit 0∧ai=[]) (s:=1) (by omega) ?_ ?_ (by omega) ?_ ?_
 ·intro i n m e ai Y R hm hi U bx aB hw ⟨J,ab,aY⟩ an
  subst aY
  obtain⟨mr,pb⟩:=h n hm
  have Ab:=YE m n (by omega) (by omega)
  have cg:0<Nat.gcd m n:=F0 _ (by omega)
  have c5:m / Nat.gcd m n≤m:=Nat.div_le_self _ _
  have nR:1≤m / Nat.gcd m n:=Nat.div_pos (O3 _ (by omega)) cg
  have oY:kF m n≤960*960:=O8 (by omega) pb
  have pL:1≤kF m n:=O8 nR mr
  have a3:((m:Nat):Int).tdiv ((Nat.gcd m n:Nat):Int)=((m / Nat.gcd m n:Nat):Int):=by rw[FZ (by omega),Pk]
  have cI:IntKind.i64.wrap ((m / Nat.gcd m n:Nat):Int)=((m / Nat.gcd m n:Nat):Int):=wrap_i64 (by omega) (by omega)
  have a7:((m / Nat.gcd m n:Nat):Int)*((n:Nat):Int)=((kF m n:Nat):Int):=by rw[kF,Int.natCast_mul]
  have dZ:IntKind.i64.wrap ((kF m n:Nat):Int)=((kF m n:Nat):Int):=wrap_i64 (by omega) (by omega)
  have ft:((Nat.gcd m n:Nat):Int)≠0:=by omega
  generalize Nat.gcd m n=g at *
  generalize m / g=aCO at *
  generalize kF m n=M at *
  by_cases hK:960<M
  ·have d:decide ((960:Int)<((M:Nat):Int))=true:=bY (by omega)
   rw[a6 hK,lg]at an
   (repeat' first|simp only[SK,H8,go_sem,J,aB,bx,Ab,ft,a3,cI,a7,dZ,d]|with_reducible first|refine aZ fun _=>?_|refine a1 ?_|fail)
   all_goals(refine an _ _ _ ⟨?_,rfl,rfl⟩;simp only[go_sem,J])
  ·have d:decide ((960:Int)<((M:Nat):Int))=false:=bA (by omega)
   rw[a2 hK,g6]at an
   (repeat' first|simp only[SK,H8,go_sem,J,aB,hw,bx,Ab,ft,a3,cI,a7,dZ,d]|with_reducible first|refine aZ fun _=>?_|refine a1 ?_|fail)
   all_goals(refine an _ _ ⟨?_,⟨by omega,by omega⟩,rfl⟩;simp only[go_sem,J,hw])
 ·intro m e ai Y R aB ⟨J,ab,aY⟩ an
  subst aY
  simp only[SK,H8,go_sem,J,aB]
  all_goals(refine an _ _ _ ⟨?_,rfl,rfl⟩;simp only[go_sem,J,id])
 ·refine⟨?_,⟨by omega,by omega⟩,rfl⟩
  simp only[go_sem,bJ]
 ·intro x e ai ⟨ad,ag,aJ⟩
  subst ag aJ
  have aI:∀(l:List Nat) (i m:Nat),gJ (fun _ n m=>if 960<kF m n then dQ.out (kF m n)else dQ.go (kF m n)) id i l m=pJ m l:=by
   intro l
   induction l with
   | nil=>intro i m;rfl
   | cons n l au =>
    intro i m
    rw[pJ]
    by_cases af:960<kF m n
    ·rw[q3 (r:=kF m n) (by rw[a6 af]),a6 af]
    ·rw[ng (s':=kF m n) (by rw[a2 af]),au,a2 af]
  rw[aI]at ad
  simp only[SJ,go_sem,ad]
def nd(l:List kO):Nat:=pJ 1 (l.map fun s=>s.aK.toNat)
theorem afN(c:Bool)(l:List kO)(ao:l.length≤32)(h:∀ s∈l,yE s):a0 Tryz.prog pol 87 [.aP c 3 (l.map lx)]=some (if 960<nd l then .ch [I 0,I 6]else .ch [I ((nd l:Nat):Int),I 0]):=by
 have bB:=aiV c l ao h
 have aO:=ak9 true (l.map fun s=>s.aK.toNat) (by rw[bJ];exact ao) (fun n aw=>by
  obtain⟨s,J,rfl⟩:=nE.1 aw
  have:=h s J
  omega)
 have aW:(l.map fun s=>s.aK.toNat).map (fun n=>I ((n:Nat):Int))=(l.map kO.aK).map I:=by
  rw[Gi,Gi]
  refine OW fun s J=>?_
  have:=(h s J).1
  simp only[Function.comp,uw (by omega:0≤s.aK)]
 rw[aW]at aO
 change a0 Tryz.prog pol 118 _=some (I ((nd l:Nat):Int))at aO
 generalize nd l=M at *
 have fr:8*l.length≤eQ:=by rw[s3];exact l9 (by omega) (by omega)
 have Bo:l.length≤9223372036854775807:=by omega
 obtain⟨F,eA⟩:∃ F:Nat→Int,F=fun i=>(l[i]?.map kO.aK).getD 0:=⟨_,rfl⟩
 have ie:(List.range l.length).map F=l.map kO.aK:=by
  apply y1
  intro i
  by_cases hi:i<l.length
  ·simp[eA,hi]
  ·simp[hi,kb (by omega:l.length≤i)]
 refine cK 2000 1 aq8 (bH rfl) ?_
 (repeat' first|simp only[MO,go_sem,bB,fr,Bo,bJ]|with_reducible first|refine aZ fun _=>?_|refine a1 ?_|fail)
 refine k4 l lx (step:=fun i _ (_:Unit)=>dQ.go ()) (fin:=id)
  (St:=fun i _ e ai=>(e 5=.ms 0 l.length 0 l.length 1 true∧e 17=.t (.aP c 3 (l.map lx))∧e 18=.t (I (l.length:Nat))∧e 19=.t (I (i:Nat)))∧∃ aG,aG≤l.length∧ai=[.row 1 (((q2 F (0:Int) l.length i).map I).map .t) aG])
  (Ex:=fun _ x e ai=>e 5=.ms 0 l.length 0 l.length 1 true∧x=.exit 0∧∃ aG,aG≤l.length∧ai=[.row 1 (((l.map kO.aK).map I).map .t) aG]) (s:=()) (by omega) ?_ ?_ (by omega) ?_ ?_
 ·intro i s _ e ai Y R hm hi U bx aB hw ⟨J,aG,bN,aY⟩ an
  subst aY
  simp only[g6]at an
  have QJ:s.aK=F i:=by simp only[eA,U];rfl
  have qq:=Yl (f:=F) (z:=(0:Int)) hi QJ
  have hlen:=Yk F (0:Int) (Nat.le_of_lt hi)
  generalize eL:q2 F (0:Int) l.length i=L at *
  obtain⟨dy,hold⟩:∃ w,L[i]? = some w:=⟨L[i]'(by omega),by simp⟩
  have kX:(List.map ah.t (List.map I L))[i]? = some (.t (I dy)):=Ci (enc:=I) hold
  have uU:=map_set (enc:=I) (l:=L) (i:=i) (x:=s.aK)
  rw[qq]at uU
  (repeat' first|simp only[acz,MP,go_sem,J,aB,hw,bx,kX,hlen,bN,hi,uU,K4]|with_reducible first|refine aZ fun _=>?_|refine a1 ?_|fail)
  all_goals(refine an _ _ ⟨?_,l.length,bP _,?_⟩<;>simp only[go_sem,J,hw])
 ·intro _ e ai Y R aB ⟨J,aG,bN,aY⟩ an
  subst aY
  (repeat' first|simp only[acz,MP,go_sem,J,aB,K4]|with_reducible first|refine aZ fun _=>?_|refine a1 ?_|fail)
  all_goals(refine an _ _ _ ⟨?_,rfl,aG,bN,?_⟩<;>(try simp only[go_sem,J]))
  all_goals rw[Yj,ie]
 ·refine⟨?_,0,by omega,?_⟩
  ·simp only[go_sem,bJ]
  ·rw[Ym];simp
 ·rintro x e ai ⟨ad,rfl,aG,bN,rfl⟩
  have tJ:∀ p:Nat→Bool,p 0=true→snap [.row 1 (((l.map kO.aK).map I).map .t) aG] p 19 (.ms 0 l.length 0 l.length 1 true)=some (.aP true 1 ((l.map kO.aK).map I)):=fun p av=>NZ av rfl bN (by rw[bJ])
  have IS:∀ p:Nat→Bool,p 0=true→snap [.row 1 (((l.map kO.aK).map I).map .t) aG] p 20 (.ms 0 l.length 0 l.length 1 true)=some (.aP true 1 ((l.map kO.aK).map I)):=fun p av=>NZ av rfl bN (by rw[bJ])
  by_cases hK:960<M
  ·have d:decide ((960:Int)<((M:Nat):Int))=true:=bY (by omega)
   rw[a6 hK]
   (repeat' first|simp only[MO,go_sem,ad,tJ,IS,aO,d,bN,ez]|with_reducible first|refine aZ fun _=>?_|refine a1 ?_|fail)
  ·have d:decide ((960:Int)<((M:Nat):Int))=false:=bA (by omega)
   rw[a2 hK]
   (repeat' first|simp only[MO,go_sem,ad,tJ,IS,aO,d,bN,ez]|with_reducible first|refine aZ fun _=>?_|refine a1 ?_|fail)
def ga(bO:List Int):Nat:=pJ 1 (bO.map Int.toNat)
abbrev vc(p:Int):kO:=⟨p,0,1⟩
theorem Ns(c:Bool)(bO:List Int)(ao:bO.length≤32)(h:∀ p∈bO,1≤p∧p≤960):a0 Tryz.prog pol 50 [.aP c 1 (bO.map I)]=some (if 960<ga bO then .ch [I 0,I 6]else .ch [I ((ga bO:Nat):Int),I 0]):=by
 have aO:=afN true (bO.map vc) (by rw[bJ];exact ao) (fun s J=>by
  obtain⟨p,av,rfl⟩:=nE.1 J
  have:=h p av
  exact⟨this.1,this.2,Gl _,by show 0<p;omega,Gl _,this.1⟩)
 have aW:nd (bO.map vc)=ga bO:=by unfold nd ga;rw[Gi];rfl
 rw[aW]at aO
 generalize ga bO=M at *
 have fr:24*bO.length≤eQ:=by rw[s3];exact l9 (by omega) (by omega)
 have Bo:bO.length≤9223372036854775807:=by omega
 obtain⟨F,eA⟩:∃ F:Nat→kO,F=fun i=>(bO[i]?.map vc).getD ⟨0,0,0⟩:=⟨_,rfl⟩
 have ie:(List.range bO.length).map F=bO.map vc:=by
  apply y1
  intro i
  by_cases hi:i<bO.length
  ·simp[eA,hi]
  ·simp[hi,kb (by omega:bO.length≤i)]
 refine cK 2000 1 aqz (bH rfl) ?_
 simp only[Mw,go_sem,fr,Bo,bJ]
 refine k4 bO I (step:=fun i _ (_:Unit)=>dQ.go ()) (fin:=id)
  (St:=fun i _ e ai=>(e 4=.ms 0 bO.length 0 bO.length 3 true∧e 10=.t (.aP c 1 (bO.map I))∧e 11=.t (I (bO.length:Nat))∧e 12=.t (I (i:Nat)))∧∃ aG,aG≤bO.length∧ai=[.row 3 (((q2 F (⟨0,0,0⟩:kO) bO.length i).map lx).map .t) aG])
  (Ex:=fun _ x e ai=>e 4=.ms 0 bO.length 0 bO.length 3 true∧x=.exit 0∧∃ aG,aG≤bO.length∧ai=[.row 3 (((bO.map vc).map lx).map .t) aG]) (s:=()) (by omega) ?_ ?_ (by omega) ?_ ?_
 ·intro i p _ e ai Y R hm hi U bx aB hw ⟨J,aG,bN,aY⟩ an
  subst aY
  simp only[g6]at an
  have QJ:vc p=F i:=by simp only[eA,U];rfl
  have qq:=Yl (f:=F) (z:=(⟨0,0,0⟩:kO)) hi QJ
  have hlen:=Yk F (⟨0,0,0⟩:kO) (Nat.le_of_lt hi)
  generalize eL:q2 F (⟨0,0,0⟩:kO) bO.length i=L at *
  obtain⟨dy,hold⟩:∃ w,L[i]? = some w:=⟨L[i]'(by omega),by simp⟩
  have kX:(List.map ah.t (List.map lx L))[i]? = some (.t (lx dy)):=Ci (enc:=lx) hold
  have uU:=map_set (enc:=lx) (l:=L) (i:=i) (x:=vc p)
  rw[qq]at uU
  simp only[abO,Mx,go_sem,J,aB,hw,bx,kX,hlen,bN,hi,uU,K4]
  all_goals(refine an _ _ ⟨?_,bO.length,bP _,?_⟩<;>simp only[go_sem,J,hw])
 ·intro _ e ai Y R aB ⟨J,aG,bN,aY⟩ an
  subst aY
  simp only[abO,Mx,go_sem,J,aB,K4]
  all_goals(refine an _ _ _ ⟨?_,rfl,aG,bN,?_⟩<;>(try simp only[go_sem,J]))
  all_goals rw[Yj,ie]
 ·refine⟨?_,0,by omega,?_⟩
  ·simp only[go_sem,bJ]
  ·rw[Ym];simp
 ·rintro x e ai ⟨ad,rfl,aG,bN,rfl⟩
  have tJ:∀ p:Nat→Bool,p 0=true→snap [.row 3 (((bO.map vc).map lx).map .t) aG] p 19 (.ms 0 bO.length 0 bO.length 3 true)=some (.aP true 3 ((bO.map vc).map lx)):=fun p av=>NZ av rfl bN (by rw[bJ])
  have IS:∀ p:Nat→Bool,p 0=true→snap [.row 3 (((bO.map vc).map lx).map .t) aG] p 20 (.ms 0 bO.length 0 bO.length 3 true)=some (.aP true 3 ((bO.map vc).map lx)):=fun p av=>NZ av rfl bN (by rw[bJ])
  by_cases hK:960<M
  ·rw[a6 hK]at aO ⊢
   simp only[Mw,go_sem,ad,tJ,IS,aO,bN,ez]
  ·rw[a2 hK]at aO ⊢
   simp only[Mw,go_sem,ad,tJ,IS,aO,bN,ez]
theorem akY(a b:Int)(ab:0<b):(if a.tmod b<0 then a.tdiv b-1 else a.tdiv b)=a / b:=by
 have bo:=Int.tmod_def a b
 have ad:=Gf a ab
 have ag:=JY a ab
 have aJ:=nG a (show b≠0 by omega)
 have bL:=l5 a ab
 have dC:=Int.emod_def a b
 split
 ·rename_i h
  have e:b*(a.tdiv b-1)=b*a.tdiv b-b:=by rw[Int.mul_sub,Int.mul_one]
  have:b*(a.tdiv b-1)=b*(a / b):=by
   have:0≤a-b*(a.tdiv b-1)∧a-b*(a.tdiv b-1)<b:=by omega
   have q:=F4 a (Int.dvd_refl b)
   have r:(a-b*(a.tdiv b-1)) % b=a % b:=OV a b _
   rw[J1 this.1 this.2]at r
   omega
  exact WY (by omega) this
 ·rename_i h
  have:b*a.tdiv b=b*(a / b):=by
   have:0≤a-b*a.tdiv b∧a-b*a.tdiv b<b:=by omega
   have r:(a-b*a.tdiv b) % b=a % b:=OV a b _
   rw[J1 this.1 this.2]at r
   omega
  exact WY (by omega) this
theorem Qi(a b:Int)(ae:-1099511627776≤a∧a≤1099511627776)(ab:0<b∧b<1000000):a0 Tryz.prog pol 48 [I a,I b]=some (I (a / b)):=by
 have ft:b≠0:=by omega
 have e:=akY a b ab.1
 have cN:-1099511627777≤a / b∧a / b≤1099511627776:=by
  constructor
  ·have:=Pl ab.1 ae.1
   refine Kf ?_ this
   rw[Int.le_ediv_iff_mul_le ab.1]
   have:=WR (show(1:Int)≤b by omega) (show(0:Int)≤1099511627777 by omega)
   omega
  ·by_cases h:0≤a
   ·exact Kf (AQ b h) ae.2
   ·have:=WT (show a<0 by omega) ab.1
    omega
 have afw:IntKind.i64.wrap (a / b)=a / b:=wrap_i64 (by omega) (by omega)
 refine cK 1 1 aqu (bH rfl) ?_
 by_cases h:a.tmod b<0
 ·rw[a6 h]at e
  have d:=bY h
  have cI:IntKind.i64.wrap (a.tdiv b)=a.tdiv b:=wrap_i64 (by omega) (by omega)
  have dZ:IntKind.i64.wrap (a.tdiv b-1)=a.tdiv b-1:=wrap_i64 (by omega) (by omega)
  simp only[TJ,go_sem,ft,d,cI,dZ,e,afw]
 ·rw[a2 h]at e
  have d:=bA h
  have cI:IntKind.i64.wrap (a.tdiv b)=a.tdiv b:=wrap_i64 (by omega) (by omega)
  simp only[TJ,go_sem,ft,d,cI,e,afw]
structure fp where
 str:Int
 port:Int
 ec:Int
 kr:Int
 deriving DecidableEq
abbrev e3(u:fp):T:=.agg [I u.str,I u.port,I u.ec,I u.kr]
structure b7 where
 aK:List Int
 dr:List fp
abbrev j4(c1 c2:Bool)(p:b7):List T:=[.aP c1 1 (p.aK.map I),.aP c2 4 (p.dr.map e3)]
abbrev g1(c1 c2:Bool)(p:b7):T:=.agg (j4 c1 c2 p)
def bT(p:b7)(s:Int):Int:=p.aK[s.toNat]?.getD 1
abbrev wO(p:b7)(u:fp):Prop:=0≤u.str∧u.str<p.aK.length∧0≤u.port∧u.port<48∧0≤u.ec∧u.ec<bT p u.str∧1≤u.kr∧u.kr≤bT p u.str
structure jt(p:b7):Prop where
 len:p.aK.length≤12
 Od:p.dr.length≤192
 aK:∀ x∈p.aK,1≤x∧x≤240
 nd:ga p.aK≤960
 use:∀ u∈p.dr,wO p u
theorem wv{p:b7}{s:Int}(h:0≤s∧s<p.aK.length):(p.aK.map I)[s.toNat]? = some (I (bT p s))∧bT p s∈p.aK:=by
 have hi:s.toNat<p.aK.length:=by omega
 have e:p.aK[s.toNat]? = some p.aK[s.toNat]:=fC hi
 refine⟨?_,?_⟩
 ·rw[eE,bT,e];rfl
 ·rw[bT,e];exact oP hi
section
variable(c1 c2:Bool)(p:b7)(h:jt p)
include h
theorem Cp:a0 Tryz.prog pol 24 [g1 c1 c2 p]=some (I 0):=by
 have d1:decide ((12:Int)<((p.aK.length:Nat):Int))=false:=bA (by have:=h.len;omega)
 have d2:decide ((192:Int)<((p.dr.length:Nat):Int))=false:=bA (by have:=h.Od;omega)
 have ln:=Ns c1 p.aK (by have:=h.len;omega) (fun x U=>by have:=h.aK x U;omega)
 rw[a2 (by have:=h.nd;omega)]at ln
 have hlen:=h.len
 have aCw:=h.Od
 obtain⟨aR,aw⟩:∃ aR,1000<aR:=⟨1001,by omega⟩
 refine cK aR 1 ap3 (bH rfl) ?_
 (repeat' first|simp only[Mg,go_sem,d1,d2,bJ]|with_reducible first|refine aZ fun _=>?_|refine a1 ?_|fail)
 refine k4 p.aK I (step:=fun _ s (u:Unit)=>dQ.go u) (fin:=id)
  (St:=fun i _ e ai=>(e 1=.t (.ip (j4 c1 c2 p))∧e 21=.t (.aP c1 1 (p.aK.map I))∧e 22=.t (I (p.aK.length:Nat))∧e 23=.t (I (i:Nat)))∧ai=[])
  (Ex:=fun _ x e ai=>e 1=.t (.ip (j4 c1 c2 p))∧x=.exit 0∧ai=[]) (s:=()) (by omega) ?_ ?_ (by omega) ?_ ?_
 ·intro i x _ e ai Y R hm hi U bx aB hw ⟨J,aY⟩ an
  subst aY
  simp only[g6]at an
  obtain⟨dW,fo⟩:=h.aK x hm
  have a3:decide (x<1)=false:=bA (by omega)
  have a7:decide (240<x)=false:=bA (by omega)
  simp only[abn,Mh,go_sem,J,aB,hw,bx,a3,a7]
  all_goals(refine an _ _ ⟨?_,rfl⟩;simp only[go_sem,J,hw])
 ·intro _ e ai Y R aB ⟨J,aY⟩ an
  subst aY
  simp only[abn,Mh,go_sem,J,aB]
  all_goals(refine an _ _ _ ⟨?_,rfl,rfl⟩;simp only[go_sem,J])
 ·refine⟨?_,rfl⟩
  simp only[go_sem,bJ]
 ·rintro x e ai ⟨ad,rfl,rfl⟩
  (repeat' first|simp only[Mg,go_sem,ad,ln,bJ]|with_reducible first|refine aZ fun _=>?_|refine a1 ?_|fail)
  refine k4 p.dr e3 (step:=fun _ s (u:Unit)=>dQ.go u) (fin:=id)
   (St:=fun i _ e ai=>(e 1=.t (.ip (j4 c1 c2 p))∧e 43=.t (.aP c2 4 (p.dr.map e3))∧e 44=.t (I (p.dr.length:Nat))∧e 45=.t (I (i:Nat)))∧ai=[])
   (Ex:=fun _ x e ai=>x=.exit 2∧ai=[]) (s:=()) (by omega) ?_ ?_ (by omega) ?_ ?_
  ·intro i u _ e ai Y R hm hi U bx aB hw ⟨J,aY⟩ an
   subst aY
   simp only[g6]at an
   obtain⟨gy,iY,rN,rO,FF,FG,CR,u8⟩:=h.use u hm
   obtain⟨gj,_⟩:=wv (p:=p) ⟨gy,iY⟩
   have ox:(u.str.toNat:Int)=u.str:=uw gy
   have jM:u.str.toNat<p.aK.length:=by omega
   generalize bT p u.str=P at *
   obtain⟨s,sM,f,l⟩:=u
   simp only at gy iY rN rO FF FG CR u8 gj ox jM
   have a3:decide (s<0)=false:=bA (by omega)
   have a7:decide (((p.aK.length:Nat):Int)≤s)=false:=bA (by omega)
   have cz:decide (sM<0)=false:=bA (by omega)
   have eJ:decide ((48:Int)≤sM)=false:=bA (by omega)
   have gD:decide (f<0)=false:=bA (by omega)
   have wC:decide (P≤f)=false:=bA (by omega)
   have wD:decide (l<1)=false:=bA (by omega)
   have hk:decide (P<l)=false:=bA (by omega)
   have Am:decide (0≤s)=true:=bY gy
   (repeat' first|simp only[abp,Mi,go_sem,J,aB,hw,bx,a3,a7,cz,eJ,gD,wC,wD,hk,gj,gy,jM,bJ]|with_reducible first|refine aZ fun _=>?_|refine a1 ?_|fail)
   all_goals(refine an _ _ ⟨?_,rfl⟩;simp only[go_sem,J,hw])
  ·intro _ e ai Y R aB ⟨J,aY⟩ an
   subst aY
   simp only[abp,Mi,go_sem,J,aB]
   all_goals exact an _ _ _ ⟨rfl,rfl⟩
  ·refine⟨?_,rfl⟩
   simp only[go_sem,ad,bJ]
  ·rintro x e ai ⟨rfl,rfl⟩
   simp only[Mg,go_sem]
end
def rv(p:b7)(u:fp)(x:Int):kO:=⟨bT p u.str,(u.ec+x) % bT p u.str,u.kr⟩
section
variable(c1 c2:Bool)(p:b7)(h:jt p)
include h
theorem oF{s:Int}(J:0≤s∧s<p.aK.length):1≤bT p s∧bT p s≤240:=h.aK _ (wv J).2
theorem acM{u:fp}(hu:wO p u)(x:Int):yE (rv p u x):=by
 obtain⟨gy,iY,rN,rO,FF,FG,CR,u8⟩:=hu
 obtain⟨cN,db⟩:=oF p h ⟨gy,iY⟩
 exact⟨cN,by show bT p u.str≤960;omega,nG _ (by omega),l5 _ (by omega),CR,u8⟩
theorem acK(u:fp)(hu:wO p u)(x:Int)(U:0≤x∧x≤1000):a0 Tryz.prog pol 55 [g1 c1 c2 p,e3 u,I x]=some (lx (rv p u x)):=by
 obtain⟨gy,iY,rN,rO,FF,FG,CR,u8⟩:=hu
 obtain⟨cN,db⟩:=oF p h ⟨gy,iY⟩
 obtain⟨gj,_⟩:=wv (p:=p) ⟨gy,iY⟩
 have jM:u.str.toNat<p.aK.length:=by omega
 have w:IntKind.i64.wrap (u.ec+x)=u.ec+x:=wrap_i64 (by omega) (by omega)
 have ft:bT p u.str≠0:=by omega
 have lZ:(u.ec+x).tmod (bT p u.str)=(u.ec+x) % bT p u.str:=jZ (by omega)
 unfold rv
 generalize bT p u.str=P at *
 obtain⟨s,sM,f,l⟩:=u
 simp only at gy iY rN rO FF FG CR u8 gj jM w ft lZ
 refine cK 1 1 aqD (bH rfl) ?_
 (repeat' first|simp only[abS,go_sem,gj,gy,jM,w,ft,lZ,bJ]|with_reducible first|refine aZ fun _=>?_|refine a1 ?_|fail)
theorem Vd(i x:Int)(hi:0≤i∧i<p.aK.length):a0 Tryz.prog pol 27 [g1 c1 c2 p,I i,I x]=some (B (decide (0≤x) && decide (x<bT p i))):=by
 obtain⟨gj,_⟩:=wv (p:=p) hi
 have gy:=hi.1
 have jM:i.toNat<p.aK.length:=by omega
 generalize bT p i=P at *
 generalize aF:decide (0≤x)=d
 generalize aE:decide (x<P)=q
 refine cK 1 1 ap5 (bH rfl) ?_
 cases d
 ·simp only[Tm,go_sem,aF]
 ·cases q
  all_goals(simp only[Tm,go_sem,aF,aE,gj,gy,jM,bJ])
end
def sb(p:b7)(a b:Int)(u v:fp):Bool:=decide (u=v) || !CC (rv p u a) (rv p v b)
section
variable(c1 c2:Bool)(p:b7)(h:jt p)(a b:Int)(ae:0≤a∧a≤1000)(ab:0≤b∧b≤1000)
noncomputable abbrev Cg(E:aM)(pd:Option Code):a9:=.loop 28 (rD 38 (eR (some [5,7,9,10]) E)) [19,20] (hc Tryz.prog 28 0).1 (hc Tryz.prog 28 0).2 false pd
noncomputable abbrev fy(E:aM)(q:Bool)(aG:Nat)(pd:Option Code):aj:=[.row 1 [.t (B q)] aG,Cg E pd]
abbrev P3(E:aM):Prop:=E 5=.t (.ip (j4 c1 c2 p))∧E 7=.t (.ip [I a])∧E 9=.t (.ip [I b])∧E 10=.ref 0 1 0 0
include h ae ab
theorem ajj(E:aM)(dm:P3 c1 c2 p a b E)(aG:Nat)(bN:aG≤1)(bn aR:Nat)(u v:fp)(hu:wO p u)(az:wO p v)(X:aj)(Q:ah→aj→Prop)
  (He:sb p a b u v=false→∀ cw,Q (.t (B true)) (fy E false aG none++X++cw)) (xx:sb p a b u v=true→∀ cw,Q (.t (B false)) (fy E true 1 (some .ret)++X++cw)) :
  ej (inl Tryz.prog pol (a0 Tryz.prog pol) aR (bn+1) (.bF 1) [.t (e3 u),.t (e3 v)] (fy E false aG none++X)) Q:=by
 have bB:=acK c1 c2 p h u hu a ae
 have aO:=acK c1 c2 p h v az b ab
 have ed:=afK _ _ (acM p h hu a) (acM p h az b)
 unfold sb at He xx
 generalize rv p u a=s at *
 generalize rv p v b=t at *
 generalize CC s t=z at *
 have aF:decide (u.str=v.str∧u.port=v.port∧u.ec=v.ec∧u.kr=v.kr)=decide (u=v):=by
  apply y2.2
  constructor
  ·rintro⟨ad,ag,aJ,bL⟩;cases u;cases v;simp_all
  ·rintro rfl;exact⟨rfl,rfl,rfl,rfl⟩
 generalize decide (u=v)=q at *
 have DK:∀(x y:a9),(X++[x]++[y])[X.length+1]? = some y:=fun x y=>by simp
 have q4:∀(x y:a9),(X++[x]++[y])[X.length]? = some x:=fun x y=>by simp
 have iX:∀(x y z:a9),(X++[x]++[y]).set (X.length+1) z=X++[x]++[z]:=fun x y z=>by simp[uz]
 obtain⟨gy,iY,rN,rO⟩:=u
 obtain⟨v1,v2,iZ,v4⟩:=v
 simp only at aF
 refine Cm (E:=eR (some [5,7,9,10]) E) rfl rfl rfl ap7 ap8 ?_
 simp only[dS,ea]at He xx ⊢
 cases q
 ·cases z
  ·have bI:=xx rfl
   (repeat' first|simp only[Mk,Ml,go_sem,dm,aF,bB,aO,ed,bN,mM,nu,DK,q4,iX]|with_reducible first|refine aZ fun _=>?_|refine a1 ?_|fail)
   all_goals(have aE:=bI [.row 4 [.t (e3 ⟨gy,iY,rN,rO⟩)] 1,.row 4 [.t (e3 ⟨v1,v2,iZ,v4⟩)] 1];simpa only[fU,dS,ea]using aE)
  ·have bI:=He rfl
   (repeat' first|simp only[Mk,Ml,go_sem,dm,aF,bB,aO,ed,bN,mM,nu,DK,q4,iX]|with_reducible first|refine aZ fun _=>?_|refine a1 ?_|fail)
   all_goals(have aE:=bI [.row 4 [.t (e3 ⟨gy,iY,rN,rO⟩)] 1,.row 4 [.t (e3 ⟨v1,v2,iZ,v4⟩)] 1];simpa only[fU,dS,ea]using aE)
 ·have bI:=xx rfl
  simp only[Mk,Ml,go_sem,dm,aF,bB,aO,ed,bN,mM,nu,DK,q4,iX]
  all_goals(have aE:=bI [.row 4 [.t (e3 ⟨gy,iY,rN,rO⟩)] 1,.row 4 [.t (e3 ⟨v1,v2,iZ,v4⟩)] 1];simpa only[fU,dS,ea]using aE)
end
def rr(p:b7)(a b j:Int)(x:Nat)(u:fp):Nat→List fp→Bool
 | _,[]=>false
 | y,v::r=>(!decide (y=x) && (decide (v.str=j) && (decide (v.port=u.port) && sb p a b u v))) || rr p a b j x u (y+1) r
section
variable(c1 c2:Bool)(p:b7)(h:jt p)(a b:Int)(ae:0≤a∧a≤1000)(ab:0≤b∧b≤1000)(i j:Int)
abbrev uH(c1 c2:Bool)(p:b7)(i j:Int)(x:Nat)(e:aM):Prop:=e 0=.bF 1∧e 1=.t (.ip (j4 c1 c2 p))∧e 2=.t (.ip [I i])∧e 3=.t (.ip [I j])∧e 10=.t (.aP c2 4 (p.dr.map e3))∧e 11=.t (I (p.dr.length:Nat))∧e 12=.t (I (x:Nat))
include h ae ab
theorem auV(E:aM)(dm:P3 c1 c2 p a b E)(aG:Nat)(bN:aG≤1)(bn aR:Nat)(aw:1000<aR)(x:Nat)(U:x<1000)(u:fp)(hu:wO p u)(R:cW→aM→aj→Prop)(e:aM)
  (he:uH c1 c2 p i j x e∧e 5=.t (I (x:Nat))∧e 6=.ref 2 1 0 0∧e 22=.t (.aP c2 4 (p.dr.map e3))∧e 23=.t (I (p.dr.length:Nat))∧e 24=.t (I 0))
  (xy:rr p a b j x u 0 p.dr=false→∀ e,uH c1 c2 p i j x e→R (.exit 2) e (fy E false aG none++[.row 4 [.t (e3 u)] 1]))
  (Bm:rr p a b j x u 0 p.dr=true→∀ e cw,R .ret e (fy E true 1 (some .ret)++cw)) (bo:aj) (Rs:bo=fy E false aG none++[.row 4 [.t (e3 u)] 1]) :
  gP 3 (some [0,1,2,3,5,6,10,11,12,22,23,24]) (c6 Tryz.prog pol (a0 Tryz.prog pol) (inl Tryz.prog pol (a0 Tryz.prog pol) aR (bn+1)) aR 89 Uc) R aR e bo:=by
 subst Rs
 have jr:=h.Od
 have fD:∀ aY,dk aY (bV 3) (Cg E none)=some (Cg E none):=fun aY=>by
  rw[xo]
  simp only[go_sem,dm]
 have qI:∀ aY (w:fp),dk aY (bV 3) (.row 4 [.t (e3 w)] 1)=some (.row 4 [.t (e3 w)] 1):=fun aY w=>by simp[dk,dw,cL]
 refine k4 p.dr e3 (step:=fun y v (_:Unit)=>if(!decide (y=x) && (decide (v.str=j) && (decide (v.port=u.port) && sb p a b u v)))=true then dQ.out true else dQ.go ()) (fin:=fun _=>false)
  (St:=fun y _ e ai=>(uH c1 c2 p i j x e∧e 5=.t (I (x:Nat))∧e 6=.ref 2 1 0 0∧e 22=.t (.aP c2 4 (p.dr.map e3))∧e 23=.t (I (p.dr.length:Nat))∧e 24=.t (I (y:Nat)))∧ai=fy E false aG none++[.row 4 [.t (e3 u)] 1])
  (Ex:=fun r q e ai=>(r=false∧q=.exit 2∧uH c1 c2 p i j x e∧ai=fy E false aG none++[.row 4 [.t (e3 u)] 1])∨(r=true∧q=.ret∧∃ cw,ai=fy E true 1 (some .ret)++cw)) (s:=()) (by omega) ?_ ?_ (by omega) ⟨he,rfl⟩ ?_
 ·intro y v _ e ai Y gn hm hi k3 bx aB hw ⟨J,aY⟩ an
  subst aY
  obtain⟨⟨bE,s1,s2,a8,cV,di,hN⟩,bC,bt,rL,kt,k6⟩:=J
  have az:=h.use v hm
  have ey:=@ajj c1 c2 p h a b ae ab E dm aG bN bn aR u v hu az [.row 4 [.t (e3 u)] 1,.row 4 [.t (e3 v)] 1]
  have aT:decide (((y:Nat):Int)=((x:Nat):Int))=decide (y=x):=y2.2 ⟨fun h=>Int.ofNat.inj h,fun h=>by rw[h]⟩
  generalize rk:decide (y=x)=a3 at *
  generalize aCs:sb p a b u v=eJ at *
  obtain⟨gy,iY,rN,rO⟩:=u
  obtain⟨v1,v2,iZ,v4⟩:=v
  simp only at an
  have aW:decide (v1≠j) = !decide (v1=j):=decide_not
  have bw:decide (v2≠iY) = !decide (v2=iY):=decide_not
  generalize h6:decide (v1=j)=a7 at *
  generalize vW:decide (v2=iY)=cz at *
  simp only[fy,dS,ea]at ey an ⊢
  cases a3<;>cases a7<;>cases cz
  all_goals simp only[vx,qT,ur,vw,O7,fJ,et]at an aW bw
  rotate_left
  rotate_left
  rotate_left
  ·cases eJ
   ·simp only[fJ,et,g6]at an
    (repeat' first|simp only[EI,z7,go_sem,bE,s1,s2,a8,cV,di,hN,bC,bt,rL,kt,k6,aB,hw,bx,aT,aW,bw,h6,vW,fD,qI]|with_reducible first|refine aZ fun _=>?_|refine a1 ?_|fail)
    with_reducible refine ey _ ?_ ?_
    ·intro _ cw
     have iR:3<cw.length+1+1+1+1:=by omega
     (repeat' first|simp only[EI,z7,go_sem,bE,s1,s2,a8,cV,di,hN,bC,bt,rL,kt,k6,hw,fD,qI,iR]|with_reducible first|refine aZ fun _=>?_|refine a1 ?_|fail)
     all_goals(refine an _ _ ⟨?_,rfl⟩;simp only[go_sem,uH,bE,s1,s2,a8,cV,di,hN,bC,bt,rL,kt,hw,GY,Nat.reduceLeDiff])
    ·intro af;cases af
   ·simp only[cQ,lg]at an
    (repeat' first|simp only[EI,z7,go_sem,bE,s1,s2,a8,cV,di,hN,bC,bt,rL,kt,k6,aB,hw,bx,aT,aW,bw,h6,vW,fD,qI]|with_reducible first|refine aZ fun _=>?_|refine a1 ?_|fail)
    with_reducible refine ey _ ?_ ?_
    ·intro af;cases af
    ·intro _ cw
     simp only[EI,z7,go_sem,bE,s1,s2,a8,cV,di,hN,bC,bt,rL,kt,k6,hw,fD,qI]
     all_goals exact an _ _ _ (.inr ⟨by first|rfl|trivial,rfl,_,rfl⟩)
  all_goals(
   try simp only[g6]at an
   (repeat' first|simp only[EI,z7,go_sem,bE,s1,s2,a8,cV,di,hN,bC,bt,rL,kt,k6,aB,hw,bx,aT,aW,bw,h6,vW,fD,qI]|with_reducible first|refine aZ fun _=>?_|refine a1 ?_|fail)
   refine an _ _ ⟨?_,rfl⟩
   simp only[go_sem,uH,bE,s1,s2,a8,cV,di,hN,bC,bt,rL,kt,hw,GY,Nat.reduceLeDiff])
 ·intro _ e ai Y gn aB ⟨J,aY⟩ an
  subst aY
  obtain⟨⟨bE,s1,s2,a8,cV,di,hN⟩,bC,bt,rL,kt,k6⟩:=J
  simp only[EI,z7,go_sem,bE,s1,s2,a8,cV,di,hN,bC,bt,rL,kt,k6,aB]
  all_goals(refine an _ _ _ (.inl ⟨by first|rfl|trivial,rfl,?_,rfl⟩);first|(simp only[go_sem,bE,s1,s2,a8,cV,di,hN];done)|exact⟨bE,s1,s2,a8,cV,di,hN⟩)
 ·intro q e ai aE
  have aI:∀(l:List fp) (y:Nat),gJ (fun y v (_:Unit)=>if(!decide (y=x) && (decide (v.str=j) && (decide (v.port=u.port) && sb p a b u v)))=true then dQ.out true else dQ.go ()) (fun _=>false) y l ()=rr p a b j x u y l:=by
   intro l
   induction l with
   | nil=>intro y;rfl
   | cons v l au =>
    intro y
    rw[rr]
    by_cases af:(!decide (y=x) && (decide (v.str=j) && (decide (v.port=u.port) && sb p a b u v)))=true
    ·rw[q3 (r:=true) (by rw[a6 af]),af];rfl
    ·rw[ng (s':=()) (by rw[a2 af]),au,Pd.2 af];rfl
  rw[aI]at aE
  rcases aE with⟨ad,rfl,ag,rfl⟩|⟨ad,rfl,cw,rfl⟩
  ·exact xy ad e ag
  ·exact Bm ad e cw
end
def n0(p:b7)(a b i j:Int):Nat→List fp→Bool
 | _,[]=>false
 | x,u::r=>(decide (u.str=i) && rr p a b j x u 0 p.dr) || n0 p a b i j (x+1) r
section
variable(c1 c2:Bool)(p:b7)(h:jt p)(a b:Int)(ae:0≤a∧a≤1000)(ab:0≤b∧b≤1000)(i j:Int)
include h ae ab
theorem auU(E:aM)(dm:P3 c1 c2 p a b E)(aG:Nat)(bN:aG≤1)(bn aR:Nat)(aw:1000<aR)(Q:ah→aj→Prop)
  (He:n0 p a b i j 0 p.dr=false→Q (.t (.ch [])) (fy E false aG none)) (xx:n0 p a b i j 0 p.dr=true→∀ cw,Q (.t (.ch [])) (fy E true 1 (some .ret)++cw)) :
  ej (inl Tryz.prog pol (a0 Tryz.prog pol) aR (bn+2) (.fn 89) [.bF 1,.t (.ip (j4 c1 c2 p)),.t (.ip [I i]),.t (.ip [I j])] (fy E false aG none)) Q:=by
 have jr:=h.Od
 have fD:∀ aY,dk aY (bV 2) (Cg E none)=some (Cg E none):=fun aY=>by
  rw[xo]
  simp only[go_sem,dm]
 refine lp ara (bH rfl) ?_
 simp only[MQ,go_sem,bJ]
 refine k4 p.dr e3 (step:=fun x u (_:Unit)=>if(decide (u.str=i) && rr p a b j x u 0 p.dr)=true then dQ.out true else dQ.go ()) (fin:=fun _=>false)
  (St:=fun x _ e ai=>uH c1 c2 p i j x e∧ai=fy E false aG none)
  (Ex:=fun r q e ai=>(r=false∧q=.exit 0∧ai=fy E false aG none)∨(r=true∧q=.ret∧∃ cw,ai=fy E true 1 (some .ret)++cw)) (s:=()) (by omega) ?_ ?_ (by omega) ?_ ?_
 ·intro x u _ e ai Y gn hm hi k3 bx aB hw ⟨⟨bE,s1,s2,a8,cV,di,hN⟩,aY⟩ an
  subst aY
  have hu:=h.use u hm
  have hf:=@auV c1 c2 p h a b ae ab i j E dm aG bN bn aR aw x (by omega) u hu
  have aT:decide (u.str≠i) = !decide (u.str=i):=decide_not
  generalize rk:decide (u.str=i)=a3 at *
  generalize rr p a b j x u 0 p.dr=a7 at *
  obtain⟨gy,iY,rN,rO⟩:=u
  simp only at an rk aT
  simp only[fy]at an ⊢
  cases a3
  ·simp only[vw,fJ,et,g6,qT]at an aT
   simp only[IJ,Ca,go_sem,bE,s1,s2,a8,cV,di,hN,aB,hw,bx,aT,rk,fD,bJ]
   refine an _ _ ⟨?_,rfl⟩
   simp only[go_sem,uH,bE,s1,s2,a8,cV,di,hN,hw,GY,Nat.reduceLeDiff]
  ·simp only[ur,vx]at an aT
   (repeat' first|simp only[IJ,Ca,go_sem,bE,s1,s2,a8,cV,di,hN,aB,hw,bx,aT,rk,bJ]|with_reducible first|refine aZ fun _=>?_|refine a1 ?_|fail)
   with_reducible refine hf _ _ ?_ ?_ ?_ _ rfl
   ·simp only[go_sem,uH,bE,s1,s2,a8,cV,di,hN]
   ·intro aE e he
    subst aE
    obtain⟨t0,t1,t2,t3,t10,t11,t12⟩:=he
    simp only[fJ,et,g6]at an
    simp only[fy,dS,ea]
    simp only[IJ,Ca,go_sem,t0,t1,t2,t3,t10,t11,t12,hw,fD]
    refine an _ _ ⟨?_,rfl⟩
    simp only[go_sem,uH,t0,t1,t2,t3,t10,t11,t12,hw,GY,Nat.reduceLeDiff]
   ·intro aE e cw
    subst aE
    simp only[cQ,lg]at an
    simp only[IJ,Ca,go_sem,hw]
    all_goals exact an _ _ _ (.inr ⟨by first|rfl|trivial,rfl,_,rfl⟩)
 ·intro _ e ai Y gn aB ⟨⟨bE,s1,s2,a8,cV,di,hN⟩,aY⟩ an
  subst aY
  simp only[IJ,Ca,go_sem,bE,s1,s2,a8,cV,di,hN,aB]
  all_goals exact an _ _ _ (.inl ⟨by first|rfl|trivial,rfl,rfl⟩)
 ·refine⟨?_,rfl⟩
  simp only[go_sem,uH,bJ]
 ·intro q e ai aE
  have aI:∀(l:List fp) (x:Nat),gJ (fun x u (_:Unit)=>if(decide (u.str=i) && rr p a b j x u 0 p.dr)=true then dQ.out true else dQ.go ()) (fun _=>false) x l ()=n0 p a b i j x l:=by
   intro l
   induction l with
   | nil=>intro x;rfl
   | cons u l au =>
    intro x
    rw[n0]
    by_cases af:(decide (u.str=i) && rr p a b j x u 0 p.dr)=true
    ·rw[q3 (r:=true) (by rw[a6 af]),af];rfl
    ·rw[ng (s':=()) (by rw[a2 af]),au,Pd.2 af];rfl
  rw[aI]at aE
  rcases aE with⟨ad,rfl,rfl⟩|⟨ad,rfl,cw,rfl⟩
  ·simp only[MQ,go_sem]
   exact He ad
  ·simp only[MQ,go_sem]
   exact xx ad cw
end
theorem auT(c1 c2:Bool)(p:b7)(i j:Int):a0 Tryz.prog pol 53 [g1 c1 c2 p,I i,I j]=some (.fn (.func 89) [] [.ip (j4 c1 c2 p),.ip [I i],.ip [I j]]):=by
 refine cK 1 1 aqB (bH rfl) ?_
 simp only[abQ,go_sem]
theorem XQ(c1 c2:Bool)(p:b7)(h:jt p)(a b:Int)(ae:0≤a∧a≤1000)(ab:0≤b∧b≤1000)(i j:Int):a0 Tryz.prog pol 28 [g1 c1 c2 p,I i,I a,I j,I b]=some (B (n0 p a b i j 0 p.dr)):=by
 have x9:=auT c1 c2 p i j
 have anw:=@auU c1 c2 p h a b ae ab i j
 generalize n0 p a b i j 0 p.dr=z at *
 obtain⟨aR,aw⟩:∃ aR,1000<aR:=⟨1001,by omega⟩
 refine cK aR 2 ap6 (bH rfl) ?_
 simp only[Mj,go_sem,x9]
 with_reducible refine anw _ ?_ 0 (uv _) 0 aR aw _ ?_ ?_
 ·refine⟨?_,?_,?_,?_⟩<;>simp only[go_sem]
 ·intro bl
  simp only[fy,Cg]
  simp only[Mj,go_sem]
  all_goals rw[bl]
 ·intro bl cw
  simp only[fy,Cg,dS,ea]
  have iR:1<cw.length+1+1:=by omega
  simp only[Mj,go_sem,iR]
  all_goals rw[bl]
theorem Wx(c1 c2:Bool)(p:b7)(h:jt p)(i a j b:Int)(hi:0≤i∧i<p.aK.length)(ae:0≤a∧a<bT p i)(aU:0≤j∧j<p.aK.length)(ab:0≤b∧b<bT p j)(gY:i=j→a=b) :
  a0 Tryz.prog pol 95 [g1 c1 c2 p,I i,I a,I j,I b]=some (.ch [B (n0 p a b i j 0 p.dr),I 0]):=by
 have bB:=Cp c1 c2 p h
 have aO:=Vd c1 c2 p h i a hi
 have ed:=Vd c1 c2 p h j b aU
 obtain⟨i1,i2⟩:=oF p h hi
 obtain⟨uY,ry⟩:=oF p h aU
 rw[bY ae.1,bY ae.2]at aO
 rw[bY ab.1,bY ab.2]at ed
 have gb:=XQ c1 c2 p h a b (by omega) (by omega) i j
 have d1:decide (i<0)=false:=bA (by omega)
 have d2:decide (((p.aK.length:Nat):Int)≤i)=false:=bA (by omega)
 have d3:decide (j<0)=false:=bA (by omega)
 have d4:decide (((p.aK.length:Nat):Int)≤j)=false:=bA (by omega)
 generalize n0 p a b i j 0 p.dr=z at *
 simp only[uu]at aO ed
 refine cK 10 1 arh (bH rfl) ?_
 by_cases aE:i=j
 ·have d5:=bY aE
  have d6:decide (a=b)=true:=bY (gY aE)
  (repeat' first|simp only[Uh,go_sem,bB,aO,ed,gb,d1,d2,d3,d4,d5,d6,bJ]|with_reducible first|refine aZ fun _=>?_|refine a1 ?_|fail)
 ·have d5:=bA aE
  (repeat' first|simp only[Uh,go_sem,bB,aO,ed,gb,d1,d2,d3,d4,d5,bJ]|with_reducible first|refine aZ fun _=>?_|refine a1 ?_|fail)
def yw(p:b7)(b j:Int):Nat→List Int→Bool
 | _,[]=>false
 | i,a::r=>n0 p a b i j 0 p.dr || yw p b j (i+1) r
def nN(p:b7)(l:List Int):Nat→List Int→Bool
 | _,[]=>false
 | j,b::r=>yw p b j 0 (l.take (j+1)) || nN p l (j+1) r
structure tO(p:b7)(l:List Int):Prop where
 len:l.length=p.aK.length
 ok:∀(i:Nat) x,l[i]? = some x→0≤x∧x<bT p i
theorem UT{α:Type}(F:Nat→α→Bool)(G:Nat→List α→Bool)(bo:∀ i,G i []=false)(ad:∀ i x r,G i (x::r)=(F i x || G (i+1) r))(l:List α)(i:Nat) :
  gJ (fun i x (_:Unit)=>if F i x=true then dQ.out true else dQ.go ()) (fun _=>false) i l ()=G i l:=by
 induction l generalizing i with
 | nil=>exact(bo i).symm
 | cons x l au =>
  rw[ad]
  by_cases af:F i x=true
  ·rw[q3 (r:=true) (by rw[a6 af]),af];rfl
  ·rw[ng (s':=()) (by rw[a2 af]),au,Pd.2 af];rfl
section
variable(c1 c2:Bool)(p:b7)(h:jt p)
include h
theorem adI:a0 Tryz.prog pol 29 [g1 c1 c2 p]=some (.ch [I ((ga p.aK:Nat):Int),I 0]):=by
 have bB:=Cp c1 c2 p h
 have aO:=Ns c1 p.aK (by have:=h.len;omega) (fun x U=>by have:=h.aK x U;omega)
 rw[a2 (by have:=h.nd;omega)]at aO
 refine cK 10 1 ap9 (bH rfl) ?_
 (repeat' first|simp only[abq,go_sem,bB,aO]|with_reducible first|refine aZ fun _=>?_|refine a1 ?_|fail)
theorem Wy(c:Bool)(l:List Int)(ao:tO p l):a0 Tryz.prog pol 11 [g1 c1 c2 p,.aP c 1 (l.map I)]=some (.ch [B (!nN p l 0 l),I 0]):=by
 have bB:=Cp c1 c2 p h
 have hlen:=h.len
 have gk:=ao.len
 have d0:decide (((l.length:Nat):Int)=((p.aK.length:Nat):Int))=true:=bY (by omega)
 obtain⟨aR,aw⟩:∃ aR,1000<aR:=⟨1001,by omega⟩
 refine cK aR 1 aaP (bH rfl) ?_
 (repeat' first|simp only[Eo,go_sem,bB,d0,bJ]|with_reducible first|refine aZ fun _=>?_|refine a1 ?_|fail)
 refine k4 l I (step:=fun _ s (u:Unit)=>dQ.go u) (fin:=id)
  (St:=fun i _ e ai=>(e 1=.t (.aP c 1 (l.map I))∧e 2=.t (.ip (j4 c1 c2 p))∧e 24=.t (.aP c 1 (l.map I))∧e 25=.t (I (l.length:Nat))∧e 26=.t (I (i:Nat)))∧ai=[])
  (Ex:=fun _ x e ai=>(e 1=.t (.aP c 1 (l.map I))∧e 2=.t (.ip (j4 c1 c2 p)))∧x=.exit 0∧ai=[]) (s:=()) (by omega) ?_ ?_ (by omega) ?_ ?_
 ·intro i x _ e ai Y R hm hi U bx aB hw ⟨J,aY⟩ an
  subst aY
  simp only[g6]at an
  obtain⟨dW,fo⟩:=ao.ok i x U
  have UH:=Vd c1 c2 p h i x (by omega)
  rw[bY dW,bY fo]at UH
  simp only[uu]at UH
  (repeat' first|simp only[SM,H9,go_sem,J,aB,hw,bx,UH]|with_reducible first|refine aZ fun _=>?_|refine a1 ?_|fail)
  all_goals(refine an _ _ ⟨?_,rfl⟩;simp only[go_sem,J,hw])
 ·intro _ e ai Y R aB ⟨J,aY⟩ an
  subst aY
  simp only[SM,H9,go_sem,J,aB]
  all_goals(refine an _ _ _ ⟨?_,rfl,rfl⟩;simp only[go_sem,J])
 ·refine⟨?_,rfl⟩
  simp only[go_sem,bJ]
 ·rintro x e ai ⟨⟨cg,c5⟩,rfl,rfl⟩
  simp only[Eo,go_sem,cg,c5,bJ]
  refine k4 l I (step:=fun j b (_:Unit)=>if yw p b j 0 (l.take (j+1))=true then dQ.out true else dQ.go ()) (fin:=fun _=>false)
   (St:=fun j _ e ai=>(e 1=.t (.aP c 1 (l.map I))∧e 2=.t (.ip (j4 c1 c2 p))∧e 37=.t (.aP c 1 (l.map I))∧e 38=.t (I (l.length:Nat))∧e 39=.t (I (j:Nat)))∧ai=[])
   (Ex:=fun r x e ai=>((r=false∧x=.exit 2)∨(r=true∧x=.ret∧e 4=.t (B false)∧e 5=.t (I 0)))∧ai=[]) (s:=()) (by omega) ?_ ?_ (by omega) ?_ ?_
  ·intro j b _ e ai Y R hm aU U bx aB hw ⟨⟨s1,s2,wJ,NN,NO⟩,aY⟩ an
   subst aY
   obtain⟨cN,db⟩:=ao.ok j b U
   have gF:=oF p h (s:=j) (by omega)
   have nX:((j:Nat):Int)+1=((j+1:Nat):Int):=by omega
   have pP:List.take (j+1) (List.map I l)=List.map I (l.take (j+1)):=by rw[y7]
   have D0:j+1≤l.length:=by omega
   have Sd:∀(i:Nat) x,(l.take (j+1))[i]? = some x→i<j+1∧l[i]? = some x:=fun i x U=>by
    rw[l4]at U
    split at U
    ·exact⟨by assumption,U⟩
    ·cases U
   have eL:(l.take (j+1)).length=j+1:=by rw[r4];omega
   generalize l.take (j+1)=L at *
   simp only[Ib,BW,go_sem,s1,s2,wJ,NN,NO,aB,hw,bx,D0,pP,bJ]
   refine k4 L I (step:=fun i a (_:Unit)=>if n0 p a b i j 0 p.dr=true then dQ.out true else dQ.go ()) (fin:=fun _=>false)
    (St:=fun i _ e ai=>(e 1=.t (.aP c 1 (l.map I))∧e 2=.t (.ip (j4 c1 c2 p))∧e 9=.t (I (j:Nat))∧e 10=.t (I b)∧e 37=.t (.aP c 1 (l.map I))∧e 38=.t (I (l.length:Nat))∧e 39=.t (I (j:Nat))∧e 47=.t (.aP (c && decide (j+1=l.length)) 1 (L.map I))∧e 48=.t (I ((j+1:Nat)))∧e 49=.t (I (i:Nat)))∧ai=[])
    (Ex:=fun r x e ai=>(e 1=.t (.aP c 1 (l.map I))∧e 2=.t (.ip (j4 c1 c2 p))∧e 37=.t (.aP c 1 (l.map I))∧e 38=.t (I (l.length:Nat))∧e 39=.t (I (j:Nat))∧r=false∧x=.exit 4∨(r=true∧x=.ret∧e 4=.t (B false)∧e 5=.t (I 0)))∧ai=[]) (s:=()) (by omega) ?_ ?_ (by omega) ?_ ?_
   ·intro i a _ e ai Y gn hm hi U bx aB nX ⟨⟨t1,t2,t9,t10,t37,t38,t39,t47,t48,t49⟩,aY⟩ an
    subst aY
    obtain⟨_,U⟩:=Sd i a U
    rw[eL]at aB hi
    obtain⟨cJ,cU⟩:=ao.ok i a U
    have PA:=oF p h (s:=i) (by omega)
    have ln:=XQ c1 c2 p h a b (by omega) (by omega) i j
    generalize n0 p a b i j 0 p.dr=z at *
    cases z
    ·simp only[fJ,et,g6]at an
     (repeat' first|simp only[SN,Ia,go_sem,t1,t2,t9,t10,t37,t38,t39,t47,t48,t49,aB,nX,bx,ln]|with_reducible first|refine aZ fun _=>?_|refine a1 ?_|fail)
     all_goals(refine an _ _ ⟨?_,rfl⟩;simp only[go_sem,t1,t2,t9,t10,t37,t38,t39,t47,t48,t49,nX])
    ·simp only[cQ,lg]at an
     simp only[SN,Ia,go_sem,t1,t2,t9,t10,t37,t38,t39,t47,t48,t49,aB,nX,bx,ln]
     all_goals(refine an _ _ _ ⟨.inr ⟨by first|rfl|trivial,rfl,?_,?_⟩,rfl⟩<;>simp only[go_sem])
   ·intro _ e ai Y gn aB ⟨⟨t1,t2,t9,t10,t37,t38,t39,t47,t48,t49⟩,aY⟩ an
    subst aY
    rw[eL]at aB t49
    simp only[SN,Ia,go_sem,t1,t2,t9,t10,t37,t38,t39,t47,t48,t49,aB]
    all_goals(refine an _ _ _ ⟨.inl ?_,rfl⟩;simp only[go_sem,t1,t2,t37,t38,t39])
   ·refine⟨?_,rfl⟩
    simp only[go_sem,s1,s2,wJ,NN,NO,pP,bJ,eL]
   ·rintro x e ai ⟨aE,rfl⟩
    rw[UT (fun i a=>n0 p a b i j 0 p.dr) (fun i l=>yw p b j i l) (fun _=>rfl) (fun _ _ _=>rfl)]at aE
    generalize yw p b j 0 L=z at *
    rcases aE with⟨t1,t2,t37,t38,t39,rfl,rfl⟩|⟨rfl,rfl,t4,t5⟩
    ·simp only[fJ,et,g6]at an
     simp only[Ib,BW,go_sem,t1,t2,t37,t38,t39,hw]
     all_goals(refine an _ _ ⟨?_,rfl⟩;simp only[go_sem,t1,t2,t37,t38,t39,hw])
    ·simp only[cQ,lg]at an
     simp only[Ib,BW,go_sem,t4,t5]
     all_goals(refine an _ _ _ ⟨.inr ⟨by first|rfl|trivial,rfl,?_,?_⟩,rfl⟩<;>simp only[go_sem,t4,t5])
  ·intro _ e ai Y R aB ⟨⟨s1,s2,wJ,NN,NO⟩,aY⟩ an
   subst aY
   simp only[Ib,BW,go_sem,s1,s2,wJ,NN,NO,aB]
   all_goals exact an _ _ _ ⟨.inl ⟨by first|rfl|trivial,rfl⟩,rfl⟩
  ·refine⟨?_,rfl⟩
   simp only[go_sem,cg,c5,bJ]
  ·rintro x e ai ⟨aE,rfl⟩
   rw[UT (fun j b=>yw p b j 0 (l.take (j+1))) (nN p l) (fun _=>rfl) (fun _ _ _=>rfl)]at aE
   generalize nN p l 0 l=z at *
   rcases aE with⟨rfl,rfl⟩|⟨rfl,rfl,t4,t5⟩
   ·simp only[Eo,go_sem,qT]
   ·simp only[Eo,go_sem,t4,t5,vx]
end
end Go.Proofs.YtogagakgmbkonaaGreat
