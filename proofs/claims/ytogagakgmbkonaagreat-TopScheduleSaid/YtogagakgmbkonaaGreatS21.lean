/- Part 21 of the proof of TopSchedule. -/
import Derived.Test.YtogagakgmbkonaaGreatS20
set_option linter.all false
set_option maxRecDepth 100000
set_option maxHeartbeats 4000000
namespace Go.Abs
open Go
variable{P:Program}{pol:c4}{f:FuncId}{n:Nat}
structure WJ(P:Program)(f:FuncId)(fn:Func)(kT:List Code)(x6 i11 i12 db eG:Nat)(e9 rg ee ex h0 aW cU:Oper)(mt fG DF:TypeId)(t5 t49 t50 t51 t52 t53 t54 t9:Tmp)(body rest:Code)(rs:List (Nat × Option (Bool × Nat))):Prop where
 aI:P.funcs[f]? = some fn
 ab:fn.body=some (Fx kT (.seq (.seq (.region x6 #[e9,rg] false) (.block db (.loop (.seq (.region i11 #[ee,ex] false) (.seq (.cond (.tmp t52) .skip (.exit db)) (.block eG (.seq (.region i12 #[h0,aW,cU] false) body))))))) rest))
 ops:OJ e9 rg ee ex h0 aW cU mt t5 t49 t50 t51 t52 t53 t54 t9 fn.ntmps
 Lx:P.underlying mt=some (.map fG DF)
 hh:uE P fn.results.toList=some rs
 name:fn.name ≠ "runtime.NumGoroutine"
def Qb(rs:List (Nat × Option (Bool × Nat)))(r:T)(x:cW)(e:aM)(h:aj):Prop:=x=.ret∧∃ vs,jR e h rs=some vs∧snap h ez 20 (one vs)=some r
def axt(P:Program)(pol:c4)(K:eZ)(I:eY)(n:Nat)(f:FuncId)(dp:Nat)(eG:Nat)(t5 t50 t51 t52 t53 t54 t9:Tmp)(body rest:Code)(rs:List (Nat × Option (Bool × Nat)))(r:T)(live:List Tmp)(e:aM)(h:aj):Prop :=
 ∃(m:Nat) (es:List (Value × ah)) (ad:aj) (Φ:Nat→Prop),e t5=.mp m∧h[m]? = some (.map es)∧tl h (fun o=>[m].contains o) 0 h=some ad ∧
  (∀(oH i:Nat) dF,es[i]? = some dF→iO P pol K I n f (eS P pol f dp eG body) (fun x bs ai=>(x=.normal∧Φ i∧ai=ad∧∀ t,eR (some live) bs t=eR (some live) (eW (kV h (fun o=>[m].contains o) e) (some t50) (m0 oH)) t)∨(x=.ret∧Qb rs r .ret bs ai)) (NF (eR (some live) (eW (kV h (fun o=>[m].contains o) e) (some t50) (m0 oH))) t51 t52 t53 t54 t9 dF.2) ad) ∧
  ((∀ i,i<es.length→Φ i)→∀ oH:Nat,iO P pol K I n f (eS P pol f dp 0 rest) (Qb rs r) (eR (some live) (eW (kV h (fun o=>[m].contains o) e) (some t50) (m0 oH))) ad)
theorem awb(cE:Sound P pol){fn:Func}{kT:List Code}{x6 i11 i12 db eG:Nat}{e9 rg ee ex h0 aW cU:Oper}{mt fG DF:TypeId}{t5 t49 t50 t51 t52 t53 t54 t9:Tmp}{body rest:Code}{rs:List (Nat × Option (Bool × Nat))}
  (G:WJ P f fn kT x6 i11 i12 db eG e9 rg ee ex h0 aW cU mt fG DF t5 t49 t50 t51 t52 t53 t54 t9 body rest rs) {live:List Tmp} (D5:t50∈live) (zz:t51 ∉ live∧t52 ∉ live∧t49 ∉ live) {aq:List T} {r:T} {d:Nat} (Ek:aq.length≤fn.ntmps)
  (hQ:nv P pol (a0 P pol) (inl P pol (a0 P pol) n d) n f fn.ntmps kT (axt P pol (a0 P pol) (inl P pol (a0 P pol) n d) n f fn.ntmps eG t5 t50 t51 t52 t53 t54 t9 body rest rs r live) (pH (aq.map .t)) []):rZ P pol f aq r:=by
 letI:cf:=⟨fun f c=>codeOk pol n3 f c=true⟩
 have fq:∀ f c,cf.ok f c↔codeOk pol n3 f c=true:=fun _ _=>Iff.rfl
 have dD:=A1 cE
 have h3:∀ I,j9 P pol I→sT P pol (a0 P pol) I n3:=fun I bK=>KG cE.mix dD bK
 have bK:=MW (n:=n) fq cE.prog dD h3 d
 have ck:=(cE.prog.fns f fn _ G.aI G.ab).1
 obtain⟨RQ,D8⟩:=aex _ _ ck
 simp only[codeOk,fe]at D8
 refine⟨⟨fn,_,G.aI,G.ab,G.name⟩,fun w D args aF ay dn lj=>?_⟩
 have hi:Inv { N:=w.heap.size,W:=w,D:=D } D (fun _ _=>none) [] w :=
  ⟨⟨bP _,fun _ _=>rfl,rfl,rfl,aF,fun b ab _=>ab,fun o e b k ab=>by simp at ab,fun o e b k cC bs bg ab=>by simp at ab,
   fun b ds ab bG=>absurd (lU ab) (by simp at bG ⊢;omega)⟩,fun o x U=>by simp at U,fun o e y ar=>by simp at ar⟩
 have jo:ir D (fun _ _=>none) w args.toList (aq.map .t):=Cu dn lj
 have rb:=DD jo fn.ntmps
 simp only[J9]at rb
 have fin:∀(a5:c8) (a4:dt) (w':World) (cb:Act) (bz:Env) (bs:aM) (ai:aj),fI fn.ntmps bs bz→St pol { N:=w.heap.size,W:=w,D:=D } (w.heap.size,[]) a5 a4 ai w' none cb bz→Ext D (fun _ _=>none) w a5 a4 w'→(∃ vs,jR bs ai rs=some vs∧snap ai ez 20 (one vs)=some r) →
   LeavesInM (fu none) 0 P fn cb.tmps (fun e w'=>∃ v,e=.returned v∧sU w w'∧eO (wk D w w') w' v r) cb.defers .returning w':=by
  rintro a5 a4 w' cb bz bs ai tp n9 mB ⟨vs,g9,ox⟩
  obtain⟨Jn,GQ,I6,GU⟩:=n9.marks
  rw[GQ]
  refine M7 (Z:={ N:=w.heap.size,W:=w,D:=D }) (D:=a5) (β:=a4) (h:=ai) (env:=bz) (w0:=w) (D2:=D) (β2:=fun _ _=>none) (by simp) (bP _) (N:=w.heap.size) (bP _) (fun _=>True) (fun _ _ _ _=>trivial) (fun la _ i4 oY ub GP=>?_) Jn w' I6 GU trivial n9.inv n9.gK mB n9.env
  have qp:qa P bz ai fn.results.toList=some vs:=(NA tp G.hh).trans g9
  obtain⟨bU,az,vY⟩:=Jk (P:=P) qp GP i4
  refine⟨bU,az,bU,rfl,⟨i4.g.jS,i4.g.dy,i4.g.os,i4.g.out⟩,?_⟩
  have J:=CM (D2:=iy a5 a4 ez) (fun o x _ U=>i4.obj o x U) (fun b ab=>.inl ab) (fun o e b k av ab=>.inr ⟨o,e,k,av,ab⟩) 20 _ bU r ox vY
  have g:=i4.g.iy ez
  refine J.mono (fun b ab=>?_) (fun _ _=>rfl)
  by_cases ao:b<w.heap.size
  ·exact .inl (g.lM b ab ao)
  ·exact .inr ⟨by omega,g.hV b ab,fun ds ra=>(g.eU b ds ra (by simp;omega)).1 ab⟩
 refine callsIn_of_wp_marks (F:=fu none) G.aI G.ab trivial ?_ rfl
 refine aey fq dD bK (h3 _ bK) (M:=(w.heap.size,[])) kT (KO (by simpa using Ek)) hQ RQ ⟨hi,rb,ay,.nil,fun l ao=>by simp at ao⟩ (bP _) fun aT ad eg jV β1 cI cJ eA xA hD dW=>?_
 obtain⟨m,es,ag,Φ,vT,Hv,iD,sl,uQ⟩:=eA
 refine wpIn_seq (awa fq dD bK (h3 _ bK) G.ops D8.1.2.2.2.2 G.Lx vT Hv iD D5 zz (Φ:=Φ) (RR:=fun bs ai=>Qb rs r .ret bs ai) sl hD xA dW.size (fun ie oH a5 a4 w' cb bz a3 a7 cz=>?_) (fun bs ai a5 a4 w' cb bz a3 a7 cz eJ=>fin a5 a4 w' cb bz bs ai a7 cz (dW.trans eJ) a3.2))
 ·refine wy fq dD bK (h3 _ bK) a3 (uQ ie oH) D8.2 a7 (kP dW.size cz.size) fun x bs ai bz D2 β2 dZ cU ex al tp U n9 mB=>?_
  obtain⟨rfl,al⟩:=al
  cases U
  exact fin D2 β2 dZ cU bz bs ai tp n9 (dW.trans (cz.trans mB)) al
end Go.Abs
namespace Go.Proofs.YtogagakgmbkonaaGreat
open Go Go.Abs
abbrev ij(n:Int):Value:=.int .i64 n
abbrev pI(x:Nat × Nat):ah:=.ms (x.1+1) x.2 0 x.2 4 false
theorem M3:yV Tryz.prog 3 ij:=asI (by kernel_rfl)
theorem afa:dB Tryz.prog 125=some (.map 3 39):=by kernel_rfl
theorem aBo:zeroOf Tryz.prog 39=some gN:=by kernel_rfl
theorem as7(l:List (Int × Nat × Nat))(k:Int)(Y:aj):nn Tryz.prog 125 false (.map (fk ij pI l)::Y) (.mp 0) (.t (I k))=some (ym gN pI (gZ l k)):=by
 have:=ac7 (h:=.map (fk ij pI l)::Y) (o:=0) M3 afa aBo k (f:=pI) (l:=l) rfl
 rwa[show fb (ij k)=I k from rfl]at this
theorem aff(l:List (Int × Nat × Nat))(k:Int)(v:Nat × Nat)(Y:aj):ua Tryz.prog 125 (.map (fk ij pI l)::Y) (.mp 0) (.t (I k)) (pI v)=some (.map (fk ij pI (mY l k v))::Y) :=
 Oe (h:=.map (fk ij pI l)::Y) (o:=0) M3 afa k v (f:=pI) (l:=l) rfl
theorem Ng{e4 α:Type}[DecidableEq e4]:∀ {l:List (e4 × α)} {k:e4} {v:α},(l.map (·.1)).Nodup→(k,v)∈l→gZ l k=some v:=by
 intro l
 induction l with
 | nil=>intro k v _ h;cases h
 | cons p r au =>
  obtain⟨q,w⟩:=p
  intro k v aw h
  rw[gz,AS]at aw
  rw[gZ]
  rcases iu.1 h with h|h
  ·cases h;rw[a6 rfl]
  ·have aE:¬ q=k:=fun e=>aw.1 (by subst e;exact nE.2 ⟨_,h,rfl⟩)
   rw[a2 aE]
   exact au aw.2 h
theorem EX{e4 α:Type}[DecidableEq e4]:∀ {l:List (e4 × α)} {k:e4} {v:α},gZ l k=some v→(k,v)∈l:=by
 intro l
 induction l with
 | nil=>intro k v h;cases h
 | cons p r au =>
  obtain⟨q,w⟩:=p
  intro k v h
  rw[gZ]at h
  by_cases an:q=k
  ·rw[a6 an]at h;cases h;rw[an];exact List.mem_cons_self ..
  ·rw[a2 an]at h;exact Kb _ (au h)
theorem EY{e4 α:Type}[DecidableEq e4]:∀ {l:List (e4 × α)} {k:e4} {v:α} {bg:e4} {bU:α},(l.map (·.1)).Nodup→(bg,bU)∈mY l k v→(bg=k∧bU=v)∨(bg≠k∧(bg,bU)∈l):=by
 intro l
 induction l with
 | nil=>intro k v bg bU _ h;simp only[mY,iu,mG,mE,Prod.mk.injEq]at h;exact .inl h
 | cons p r au =>
  obtain⟨q,w⟩:=p
  intro k v bg bU aw h
  rw[gz,AS]at aw
  rw[mY]at h
  by_cases aE:q=k
  ·rw[a6 aE]at h
   rcases iu.1 h with h|h
   ·cases h;exact .inl ⟨rfl,rfl⟩
   ·exact .inr ⟨fun e=>aw.1 (by rw[aE,← e];exact nE.2 ⟨_,h,rfl⟩),Kb _ h⟩
  ·rw[a2 aE]at h
   rcases iu.1 h with h|h
   ·cases h;exact .inr ⟨aE,List.mem_cons_self ..⟩
   ·rcases au aw.2 h with h|⟨ad,ag⟩
    ·exact .inl h
    ·exact .inr ⟨ad,Kb _ ag⟩
theorem atN{e4 α:Type}[DecidableEq e4]:∀(l:List (e4 × α)) (k:e4) (v:α),(mY l k v).map (·.1)=if(gZ l k).isSome then l.map (·.1)else l.map (·.1)++[k]:=by
 intro l
 induction l with
 | nil=>intro k v;rfl
 | cons p r au =>
  obtain⟨q,w⟩:=p
  intro k v
  rw[mY,gZ]
  by_cases aE:q=k
  ·simp[aE]
  ·rw[a2 aE,a2 aE,gz,au,gz]
   split<;>simp
theorem adq{e4 α:Type}[DecidableEq e4]{l:List (e4 × α)}{k:e4}{v:α}(aw:(l.map (·.1)).Nodup):((mY l k v).map (·.1)).Nodup:=by
 rw[atN]
 split
 ·exact aw
 ·rename_i h
  rw[Pa]
  refine⟨aw,by simp,fun a ae b ab=>?_⟩
  simp only[iu,mG,mE]at ab
  subst ab
  rintro rfl
  obtain⟨⟨q,w⟩,ad,ag⟩:=nE.1 ae
  simp only at ag
  subst ag
  rw[Ng aw ad]at h
  exact h rfl
structure uh(pre:List fp)(l:List (Int × Nat × Nat))(X:aj):Prop where
 eU:(l.map (·.1)).Nodup
 get:∀ k o n,(k,(o,n))∈l→∃ us aG,us=pre.filter (fun u=>decide (u.port=k))∧n=us.length∧aG≤n∧X[o]? = some (.row 4 ((us.map e3).map .t) aG)
 no:∀ u∈pre,∃ v,(u.port,v)∈l
 inj:∀ k bg o n n',(k,(o,n))∈l→(bg,(o,n'))∈l→k=bg
 g2:∀ x∈X,∃(k:Nat) (es:List T) (aG:Nat),x=.row k (es.map .t) aG
 len:X.length≤2*pre.length
theorem uh.nil:uh [] [] []:=⟨by simp,by simp,by simp,by simp,by simp,by simp⟩
theorem KT{pre:List fp}{u:fp}{k:Int}:(pre++[u]).filter (fun u=>decide (u.port=k))=pre.filter (fun u=>decide (u.port=k))++if u.port=k then[u]else[]:=by
 rw[J0]
 by_cases h:u.port=k<;>simp[h]
theorem uh.new{pre:List fp}{l:List (Int × Nat × Nat)}{X:aj}(h:uh pre l X)(u:fp)(ay:gZ l u.port=none)(m:Nat):uh (pre++[u]) (mY l u.port (X.length+1,1)) (X++[a9.row 4 [.t (e3 u)] m]++[a9.row 4 [.t (e3 u)] 0]):=by
 have fg:∀ v,(u.port,v) ∉ l:=fun v az=>by rw[Ng h.eU az]at ay;cases ay
 have aB:∀ k o n,(k,(o,n))∈l→o<X.length:=fun k o n hm=>by
  obtain⟨us,aG,_,_,_,bL⟩:=h.get k o n hm
  exact(cD.1 bL).1
 refine⟨adq h.eU,fun k o n hm=>?_,fun iN mo=>?_,fun k bg o n n' hm iE=>?_,fun x U=>?_,by have:=h.len;simp;omega⟩
 ·rcases EY h.eU hm with⟨rfl,az⟩|⟨eo,hm⟩
  ·cases az
   have he:pre.filter (fun iN=>decide (iN.port=u.port))=[]:=by
    rw[List.filter_eq_nil_iff]
    intro iN mo aF
    obtain⟨v,az⟩:=h.no iN mo
    rw[ka aF]at az
    exact fg v az
   refine⟨[u],0,by rw[KT,he,a6 rfl];rfl,rfl,uv _,by simp⟩
  ·obtain⟨us,aG,ad,ag,aJ,bL⟩:=h.get k o n hm
   refine⟨us,aG,by rw[KT,a2 (fun e=>eo e.symm),oj];exact ad,ag,aJ,?_⟩
   rw[fU,fv (aB k o n hm)]
   exact bL
 ·rcases hp.1 mo with mo|mo
  ·obtain⟨v,az⟩:=h.no iN mo
   by_cases he:iN.port=u.port
   ·rw[he]at az;exact absurd az (fg v)
   ·refine⟨v,EX ?_⟩
    rw[Cl,a2 (fun e=>he e.symm)]
    exact Ng h.eU az
  ·simp only[iu,mG,mE]at mo
   subst mo
   exact⟨_,EX (by rw[Cl,a6 rfl])⟩
 ·rcases EY h.eU hm with⟨rfl,az⟩|⟨eo,hm⟩<;>rcases EY h.eU iE with⟨ad,oy⟩|⟨xQ,iE⟩
  ·exact ad.symm
  ·cases az;have:=aB _ _ _ iE;omega
  ·cases oy;have:=aB _ _ _ hm;omega
  ·exact h.inj k bg o n n' hm iE
 ·rcases hp.1 U with U|U
  ·rcases hp.1 U with U|U
   ·exact h.g2 x U
   ·simp only[iu,mG,mE]at U;exact⟨4,[e3 u],m,U⟩
  ·simp only[iu,mG,mE]at U;exact⟨4,[e3 u],0,U⟩
theorem uh.dy{pre:List fp}{l:List (Int × Nat × Nat)}{X:aj}(h:uh pre l X)(u:fp)(o n:Nat)(ay:gZ l u.port=some (o,n))(us:List fp)(aG:Nat)(nW:us=pre.filter (fun iN=>decide (iN.port=u.port)))(aw:n=us.length)(bN:aG≤n)(fa:X[o]? = some (.row 4 ((us.map e3).map .t) aG))(m:Nat) :
  uh (pre++[u]) (mY l u.port (o,n+1)) ((X++[a9.row 4 [.t (e3 u)] m]).set o (.row 4 (((us++[u]).map e3).map .t) aG)):=by
 have aB:∀ k o n,(k,(o,n))∈l→o<X.length:=fun k o n hm=>by
  obtain⟨us,aG,_,_,_,bL⟩:=h.get k o n hm
  exact(cD.1 bL).1
 have ql:=EX ay
 have lO:=aB _ _ _ ql
 refine⟨adq h.eU,fun k cC n' hm=>?_,fun iN mo=>?_,fun k bg hB mr pb hm iE=>?_,fun x U=>?_,by have:=h.len;simp;omega⟩
 ·rcases EY h.eU hm with⟨rfl,az⟩|⟨eo,hm⟩
  ·cases az
   refine⟨us++[u],aG,by rw[KT,a6 rfl,← nW],by simp[aw],by omega,by rw[l7 (by simp;omega)]⟩
  ·obtain⟨aAb,oD,ad,ag,aJ,bL⟩:=h.get k cC n' hm
   refine⟨aAb,oD,by rw[KT,a2 (fun e=>eo e.symm),oj];exact ad,ag,aJ,?_⟩
   rw[iv (fun e=>eo (by subst e;exact h.inj _ _ _ _ _ hm ql)),fv (aB k cC n' hm)]
   exact bL
 ·by_cases he:iN.port=u.port
  ·exact⟨_,EX (by rw[Cl,a6 he.symm])⟩
  ·rcases hp.1 mo with mo|mo
   ·obtain⟨v,az⟩:=h.no iN mo
    refine⟨v,EX ?_⟩
    rw[Cl,a2 (fun e=>he e.symm)]
    exact Ng h.eU az
   ·simp only[iu,mG,mE]at mo
    exact absurd (by rw[mo]) he
 ·rcases EY h.eU hm with⟨rfl,az⟩|⟨eo,hm⟩<;>rcases EY h.eU iE with⟨ad,oy⟩|⟨xQ,iE⟩
  ·exact ad.symm
  ·cases az;exact absurd (h.inj _ _ _ _ _ iE ql) xQ
  ·cases oy;exact absurd (h.inj _ _ _ _ _ hm ql) eo
  ·exact h.inj k bg hB mr pb hm iE
 ·rcases mem_set U with rfl|U
  ·exact⟨4,(us++[u]).map e3,aG,rfl⟩
  ·rcases hp.1 U with U|U
   ·exact h.g2 x U
   ·simp only[iu,mG,mE]at U;exact⟨4,[e3 u],m,U⟩
abbrev oo(c1 c2 lt:Bool)(p:b7):List T:=[.aP c1 1 (p.aK.map I),.aP c2 4 (p.dr.map e3),B lt]
section
variable(c1 c2 lt:Bool)(p:b7)(jr:p.dr.length≤192)
include jr
theorem avK(all:Int)(cF aR bn:Nat)(iV:1000000≤cF)(aw:10000<aR)(R:cW→aM→aj→Prop)(e:aM)
  (he:e 0=.t (.ip (oo c1 c2 lt p))∧e 3=.t (I all)∧e 5=.mp 0∧e 32=.t (.aP c2 4 (p.dr.map e3))∧e 33=.t (I (p.dr.length:Nat))∧e 34=.t (I 0))
  (bk:∀ e l X,e 0=.t (.ip (oo c1 c2 lt p))→e 3=.t (I all)→e 5=.mp 0→uh p.dr l X→R (.exit 0) e (.map (fk ij pI l)::X)) :
  gP cF (some [0,3,5,32,33,34]) (c6 Tryz.prog pol (a0 Tryz.prog pol) (inl Tryz.prog pol (a0 Tryz.prog pol) aR bn) aR 23 Md) R aR e [.map []]:=by
 refine k4 p.dr e3 (step:=fun _ s (u:Unit)=>dQ.go u) (fin:=id)
  (St:=fun i _ e ai=>(e 0=.t (.ip (oo c1 c2 lt p))∧e 3=.t (I all)∧e 5=.mp 0∧e 32=.t (.aP c2 4 (p.dr.map e3))∧e 33=.t (I (p.dr.length:Nat))∧e 34=.t (I (i:Nat)))∧∃ l X,uh (p.dr.take i) l X∧ai=.map (fk ij pI l)::X)
  (Ex:=fun _ x e ai=>(x=.exit 0∧e 0=.t (.ip (oo c1 c2 lt p))∧e 3=.t (I all)∧e 5=.mp 0)∧∃ l X,uh p.dr l X∧ai=.map (fk ij pI l)::X) (s:=()) (by omega) ?_ ?_ (by omega) ⟨he,[],[],.nil,rfl⟩ ?_
 ·intro i u _ e ai Y R hm hi U bx aB hw ⟨⟨bE,a8,bC,p1,p2,NM⟩,l,X,eB,aY⟩ an
  subst aY
  simp only[g6]at an
  have k2:p.dr.take (i+1)=p.dr.take i++[u]:=by rw[r3,U];rfl
  have kZ:=as7 l u.port
  have aBZ:X.length≤400:=by
   have:=eB.len
   rw[r4]at this
   omega
  have iR:0<X.length+1:=by omega
  cases ay:gZ l u.port with
  | none =>
   have mU:=fun m=>eB.new u ay m
   have rl:=aff l u.port (X.length+1,1)
   rw[ay]at kZ
   simp only[ym]at kZ
   rw[← k2]at mU
   obtain⟨gy,iY,rN,rO⟩:=u
   simp only at kZ rl mU ay
   have p0:32≤eQ:=by unfold eQ;omega
   have hy:∀(a y z:a9) (e:aM),iq cF e (a::(X++[y]++[z]))=some (e,a::(X++[y]++[z])):=fun a y z e=>by
    unfold iq
    rw[a6 (by simp;omega)]
   (repeat' first|simp only[Ti,Ip,go_sem,bE,a8,bC,p1,p2,NM,aB,hw,bx,kZ,rl,mM,nu,iR,p0,hy]|with_reducible first|refine aZ fun _=>?_|refine a1 ?_|fail)
   refine⟨by omega,by simp[nO,r9,vA],an _ _ ⟨?_,_,_,mU 1,rfl⟩⟩
   simp only[go_sem]
  | some v =>
   obtain⟨o,n⟩:=v
   obtain⟨us,aG,nW,tB,bN,fa⟩:=eB.get _ o n (EX ay)
   have hold:=fun m=>eB.dy u o n ay us aG nW tB bN fa m
   have rl:=aff l u.port (o,n+1)
   rw[ay]at kZ
   simp only[ym,pI]at kZ rl
   rw[← k2]at hold
   have aC:o<X.length:=(cD.1 fa).1
   have DT:∀ y,(X++[y])[o]? = some (.row 4 ((us.map e3).map .t) aG):=fun y=>by rw[fv aC];exact fa
   have hle:((us.map e3).map ah.t).length=n:=by simp[tB]
   have aab:us.length≤192:=by
    have ad:=AR (fun iN=>decide (iN.port=u.port)) (p.dr.take i)
    rw[← nW,r4]at ad
    omega
   have mf:∀ x,((us.map e3).map ah.t)++[.t (e3 x)]=((us++[x]).map e3).map ah.t:=fun x=>by simp
   have mf:=mf u
   have p0:(n+1)*32≤eQ:=by unfold eQ;omega
   have eo:¬ o=X.length:=by omega
   have ZO:¬ X.length=o:=by omega
   obtain⟨gy,iY,rN,rO⟩:=u
   simp only at kZ rl hold ay mf
   rw[← mf]at hold
   generalize ((us.map e3).map ah.t)=L at *
   have hy:∀(a:a9) (y z:a9) (e:aM),iq cF e (a::(X++[y]).set o z)=some (e,a::(X++[y]).set o z):=fun a y z e=>by
    unfold iq
    rw[a6 (by simp;omega)]
   (repeat' first|simp only[Ti,Ip,go_sem,bE,a8,bC,p1,p2,NM,aB,hw,bx,kZ,rl,mM,nu,iR,p0,hy,DT,hle,bN,eo,ZO]|with_reducible first|refine aZ fun _=>?_|refine a1 ?_|fail)
   refine⟨by simp,?_,an _ _ ⟨?_,_,_,hold 1,rfl⟩⟩
   ·simp[nO,r9,vA,eo,ZO]
   ·simp only[go_sem]
 ·intro _ e ai Y R aB ⟨⟨bE,a8,bC,p1,p2,NM⟩,l,X,eB,aY⟩ an
  subst aY
  rw[s4]at eB
  simp only[Ti,Ip,go_sem,bE,a8,bC,p1,p2,NM,aB]
  all_goals(refine an _ _ _ ⟨⟨rfl,?_⟩,l,X,eB,rfl⟩;simp only[go_sem,bE,a8,bC])
 ·rintro x e ai ⟨⟨rfl,ad,ag,aJ⟩,l,X,eB,rfl⟩
  exact bk e l X ad ag aJ eB
end
def vj(p:b7)(all:Int)(us:List fp):Int:=us.foldl (fun a u=>a+all / bT p u.str) 0
theorem Qj{α df:Type}(f:df→α→df):∀(l:List α) (i:Nat) (s:df),gJ (fun _ x s=>dQ.go (f s x)) (id:df→df) i l s=l.foldl f s:=by
 intro l
 induction l with
 | nil=>intro i s;rfl
 | cons x l au=>intro i s;rw[ng (s':=f s x) rfl,au];rfl
section
variable(c1 c2 lt:Bool)(p:b7)(iG:p.aK.length≤12)(ow:∀ x∈p.aK,1≤x∧x≤240)(nW:∀ u∈p.dr,0≤u.str∧u.str<p.aK.length)
include iG ow nW
theorem aAV(all:Int)(ie:0≤all∧all≤960)(aR bn:Nat)(aw:10000<aR)(us:List fp)(hu:∀ u∈us,u∈p.dr)(jr:us.length≤192)(X:aj)(fa:∀ x∈X,∃(k:Nat) (es:List T) (aG:Nat),x=.row k (es.map .t) aG)(o aG:Nat)(bN:aG≤us.length)(me:X[o]? = some (.row 4 ((us.map e3).map .t) aG))(oH:Nat)
  (R:cW→aM→aj→Prop) (e:aM) (he:e 0=.t (.ip (oo c1 c2 lt p))∧e 3=.t (I all)∧e 10=.t (I 0)∧e 50=m0 oH∧e 55=.ms (o+1) us.length 0 us.length 4 false∧e 56=.t (I (us.length:Nat))∧e 57=.t (I 0))
  (bk:∀ e,e 0=.t (.ip (oo c1 c2 lt p))→e 3=.t (I all)→e 10=.t (I (vj p all us))→e 50=m0 oH→R (.exit 4) e (.gone::X)) :
  gP (X.length+1) (some [0,3,10,50,55,56,57]) (c6 Tryz.prog pol (a0 Tryz.prog pol) (inl Tryz.prog pol (a0 Tryz.prog pol) aR bn) aR 23 Me) R aR e (.gone::X):=by
 have QX:∀ x∈X,hs (X.length+1) x:=fun x U=>by
  obtain⟨k,es,aG,rfl⟩:=fa x U
  exact zk _ _
 refine k4 us e3 (step:=fun _ u (a:Int)=>dQ.go (a+all / bT p u.str)) (fin:=id)
  (St:=fun i a e ai=>(e 0=.t (.ip (oo c1 c2 lt p))∧e 3=.t (I all)∧e 10=.t (I a)∧e 50=m0 oH∧e 55=.ms (o+1) us.length 0 us.length 4 false∧e 56=.t (I (us.length:Nat))∧e 57=.t (I (i:Nat)))∧(0≤a∧a≤i*960)∧ai=.gone::X)
  (Ex:=fun a x e ai=>(x=.exit 4∧e 0=.t (.ip (oo c1 c2 lt p))∧e 3=.t (I all)∧e 10=.t (I a)∧e 50=m0 oH)∧ai=.gone::X) (s:=0) (by omega) ?_ ?_ (by omega) ⟨he,⟨by omega,by omega⟩,rfl⟩ ?_
 ·intro i u a e ai Y R hm hi U bx aB hw ⟨⟨bE,a8,cV,vb,As,At,lv⟩,ae,aY⟩ an
  subst aY
  simp only[g6]at an
  obtain⟨gy,iY⟩:=nW u (hu u hm)
  obtain⟨gj,mT⟩:=wv (p:=p) ⟨gy,iY⟩
  obtain⟨cN,db⟩:=ow _ mT
  have jM:u.str.toNat<p.aK.length:=by omega
  have a3:all / bT p u.str≤all:=AQ _ ie.1
  have a7:0≤all / bT p u.str:=uB ie.1 (by omega)
  have yH:all.tdiv (bT p u.str)=all / bT p u.str:=FZ ie.1
  have ft:bT p u.str≠0:=by omega
  have xI:(i:Int)≤192:=by omega
  have cI:IntKind.i64.wrap (all / bT p u.str)=all / bT p u.str:=wrap_i64 (by omega) (by omega)
  have dZ:IntKind.i64.wrap (a+all / bT p u.str)=a+all / bT p u.str:=wrap_i64 (by omega) (by omega)
  have anm:((us.map e3).map ah.t)[i]? = some (.t (e3 u)):=Ci U
  have hle:((us.map e3).map ah.t).length=us.length:=by simp
  have hy:∀(y:a9) (e:aM),iq (X.length+1) e (.gone::(X++[y]))=some (kV (.gone::(X++[y])) (bV (X.length+1)) e,.gone::X):=fun y e=>by
   unfold iq
   rw[a2 (by simp),show List.take (X.length+1) (a9.gone::(X++[y]))=.gone::X by simp]
   simp only[b5,dk,Ch QX]
  have iR:¬ X.length+1≤o+1:=by
   have:=(cD.1 me).1
   omega
  have zA:bV (X.length+1) (o+1)=false:=by simp only[bV,oi];exact iR
  have Hn:∀ aY,dV aY (bV (X.length+1)) (.ms (o+1) us.length 0 us.length 4 false)=some (.ms (o+1) us.length 0 us.length 4 false):=fun aY=>YA zA
  have j1:0≤a+all / bT p u.str∧a+all / bT p u.str≤((i+1:Nat):Int)*960:=by omega
  generalize bT p u.str=P at *
  obtain⟨s,sM,f,dA⟩:=u
  simp only at gy iY gj jM
  (repeat' first|simp only[abl,Mf,go_sem,bE,a8,cV,vb,As,At,lv,aB,hw,me,anm,hle,bN,hi,gj,gy,jM,yH,ft,cI,dZ,hy,zA,mM,nu,bJ]|with_reducible first|refine aZ fun _=>?_|refine a1 ?_|fail)
  refine an _ _ ⟨?_,j1,rfl⟩
  simp only[go_sem,m0,Hn]
 ·intro a e ai Y R aB ⟨⟨bE,a8,cV,vb,As,At,lv⟩,ae,aY⟩ an
  subst aY
  simp only[abl,Mf,go_sem,bE,a8,cV,vb,As,At,lv,aB]
  all_goals(refine an _ _ _ ⟨⟨rfl,?_⟩,rfl⟩;simp only[go_sem,bE,a8,cV,vb,id])
 ·rintro x e ai ⟨⟨rfl,ad,ag,aJ,bL⟩,rfl⟩
  rw[Qj (fun(a:Int) (u:fp)=>a+all / bT p u.str)]at aJ
  exact bk e ad ag aJ bL
noncomputable def Et:C :=
 .seq (.ops ([
 aL 10 (.e9 (bh 0))]))<|
 .seq (.seq (.ops ([
 aa 55 9,
 aL 56 (.hj (.v 55)),
 aL 57 (.e9 (bh 0))]))<|
 .block 4 (.loop (some [0,3,10,50,55,56,57]) Me))<|
 .seq (.ops ([
 aa 75 10,
 aL 76 (.bin .gtr false (.v 75) (bh 63))]))<|
 .cond (.v 76) (.seq (.ops ([
  aL 2 (.e9 (bh 7))]))<|
  .ret) (.fM)
theorem ahP(all:Int)(ie:0≤all∧all≤960)(aR bn:Nat)(aw:10000<aR)(us:List fp)(hu:∀ u∈us,u∈p.dr)(jr:us.length≤192)(X:aj)(fa:∀ x∈X,∃(k:Nat) (es:List T) (aG:Nat),x=.row k (es.map .t) aG)(o aG:Nat)(bN:aG≤us.length)(me:X[o]? = some (.row 4 ((us.map e3).map .t) aG))(oH:Nat)
  (R:cW→aM→aj→Prop) (e:aM) (he:e 0=.t (.ip (oo c1 c2 lt p))∧e 3=.t (I all)∧e 9=.ms (o+1) us.length 0 us.length 4 false∧e 50=m0 oH)
  (xy:¬ 63<vj p all us→∀ e,e 0=.t (.ip (oo c1 c2 lt p))→e 3=.t (I all)→e 50=m0 oH→R .normal e (.gone::X))
  (Bm:63<vj p all us→∀ e,e 2=.t (I 7)→R .ret e (.gone::X)) :
  c6 Tryz.prog pol (a0 Tryz.prog pol) (inl Tryz.prog pol (a0 Tryz.prog pol) aR bn) aR 23 Et R e (.gone::X):=by
 have ao:=aAV c1 c2 lt p iG ow nW all ie aR bn aw us hu jr X fa o aG bN me oH
 obtain⟨bo,aJ,vO,YV⟩:=he
 simp only[Et,go_sem,bo,aJ,vO,YV]
 with_reducible refine ao _ _ ?_ ?_
 ·simp only[go_sem,bo,aJ,YV]
 ·intro e t0 t3 t10 t50
  by_cases hw:63<vj p all us
  ·have d:decide ((63:Int)<vj p all us)=true:=bY hw
   simp only[Et,go_sem,t0,t3,t10,t50,d]
   exact Bm hw _ (by simp only[go_sem])
  ·have d:decide ((63:Int)<vj p all us)=false:=bA hw
   simp only[Et,go_sem,t0,t3,t10,t50,d]
   refine xy hw _ ?_ ?_ ?_<;>simp only[go_sem,t0,t3,t50]
end
noncomputable def Te:C :=
 .ops ([
 aL 2 (.e9 (bh 0))])
noncomputable def Tf:C :=
 .ops ([
 aa 16 0,
 aL 17 (.qC (.v 16)),
 aQ 18 0 17,
 aQ 19 0 18,
 aX 20 1 19,
 aL 21 (.call (dq 50) [(.v 20)]),
 aa 15 21,
 aL 22 (.ex (.v 15) 0),
 aL 23 (.ex (.v 15) 1),
 aa 3 22,
 aa 4 23])
noncomputable def Tg:C :=
 .seq (.ops ([
 aa 24 4,
 aL 25 (.bin .neq false (.v 24) (bh 0))]))<|ha [0,3,4,25]<|
 .cond (.v 25) (.seq (.ops ([
  aa 26 4,
  aa 2 26]))<|
  .ret) (.fM)
noncomputable def Th:C :=
 .ops ([
 aL 27 (.raw (eF Tryz.prog 23 4 0)),
 aa 5 27])
noncomputable def Mc:C :=
 .seq (.ops ([
 aa 28 0,
 aL 29 (.qC (.v 28)),
 aQ 30 0 29,
 aQ 31 1 30,
 aX 32 1 31,
 aL 33 (.hj (.v 32)),
 aL 34 (.e9 (bh 0))]))<|
 .block 0 (.Ce (some [0,3,5,32,33,34]) Md)
noncomputable def B0:C :=
 .seq (.seq (.ops ([
 aa 77 0,
 aL 78 (.qC (.v 77)),
 aQ 79 0 78,
 aQ 80 1 79,
 aX 81 1 80,
 aL 82 (.hj (.v 81)),
 aL 83 (.e9 (bh 0))]))<|
 .block 6 (.loop (some [0,81,82,83]) Tj))<|
 .seq (.seq (.ops ([
 aa 100 0,
 aL 101 (.qC (.v 100)),
 aQ 102 2 101,
 aX 103 1 102]))<|
 .cond (.v 103) (.seq (.ops ([
  aL 2 (.e9 (bh 342))]))<|
  .ret) (.fM))<|
 .seq (.ops ([
 aL 2 (.e9 (bh 0))]))<|
 .ret
noncomputable abbrev sc(n:Nat):Code:=match n with
 | 0=>n8 (nK 23)
 | 1=>n8 (fH (nK 23))
 | 2=>n8 (fH (fH (nK 23)))
 | 3=>n8 (fH (fH (fH (nK 23))))
 | 4=>n8 (fH (fH (fH (fH (nK 23)))))
 | 5=>n8 (fH (fH (fH (fH (fH (nK 23))))))
 | _=>fH (fH (fH (fH (fH (fH (nK 23))))))
def Xp:Code→Code
 | .block _ c=>c
 | c=>c
def ata:Code→Code
 | .loop c=>c
 | c=>c
noncomputable abbrev Xv:Code:=fH (Xp (fH (fH (ata (Xp (fH (sc 5)))))))
theorem apU:eS Tryz.prog pol 23 (iz 23).ntmps 0 (sc 0)=Te:=by kernel_rfl
theorem apV:eS Tryz.prog pol 23 (iz 23).ntmps 0 (sc 1)=Tf:=by kernel_rfl
theorem apW:eS Tryz.prog pol 23 (iz 23).ntmps 0 (sc 2)=Tg:=by kernel_rfl
theorem apX:eS Tryz.prog pol 23 (iz 23).ntmps 0 (sc 3)=Th:=by kernel_rfl
theorem apY:eS Tryz.prog pol 23 (iz 23).ntmps 0 (sc 4)=Mc:=by kernel_rfl
theorem apZ:eS Tryz.prog pol 23 (iz 23).ntmps 3 Xv=Et:=by kernel_rfl
theorem ap2:eS Tryz.prog pol 23 (iz 23).ntmps 0 (sc 6)=B0:=by kernel_rfl
theorem axm:WJ Tryz.prog 23 (iz 23) [sc 0,sc 1,sc 2,sc 3,sc 4] 10 11 12 2 3 (eF Tryz.prog 23 10 0) (eF Tryz.prog 23 10 1) (eF Tryz.prog 23 11 0) (eF Tryz.prog 23 11 1) (eF Tryz.prog 23 12 0) (eF Tryz.prog 23 12 1) (eF Tryz.prog 23 12 2) 125 3 39 5 49 50 51 52 53 54 9 Xv (sc 6) [(2,none)] where
 aI:=by kernel_rfl
 ab:=by kernel_rfl
 ops:=by
  refine⟨⟨?_,?_,?_⟩,⟨?_,?_,?_⟩,⟨?_,?_,?_⟩,⟨?_,?_,?_⟩,⟨?_,?_,?_⟩,⟨?_,?_,?_⟩,⟨?_,?_,?_⟩,?_,by decide⟩
  iterate 21 (kernel_rfl)
  rw[show(iz 23).ntmps=104 from by kernel_rfl];decide
 Lx:=by kernel_rfl
 hh:=by kernel_rfl
 name:=bne_iff_ne.mp (show ((iz 23).name != "runtime.NumGoroutine")=true from by kernel_rfl)
def yN(p:b7):List fp→Bool
 | []=>false
 | u::r=>decide (bT p u.str<u.kr) || yN p r
section
variable(c1 c2 lt:Bool)(p:b7)(iG:p.aK.length≤12)(ow:∀ x∈p.aK,1≤x∧x≤240)(nW:∀ u∈p.dr,0≤u.str∧u.str<p.aK.length)(jr:p.dr.length≤192)
include iG ow nW jr
omit iG ow in
theorem aw7(aR bn:Nat)(aw:10000<aR)(X:aj)(fa:∀ x∈X,∃(k:Nat) (es:List T) (aG:Nat),x=.row k (es.map .t) aG)(R:cW→aM→aj→Prop)(e:aM)(he:e 0=.t (.ip (oo c1 c2 lt p)))
  (bk:∀ e h,e 2=.t (I (if yN p p.dr=true then 341 else if lt=true then 342 else 0))→R .ret e h) :
  c6 Tryz.prog pol (a0 Tryz.prog pol) (inl Tryz.prog pol (a0 Tryz.prog pol) aR bn) aR 23 B0 R e (.gone::X):=by
 have QX:∀ x∈X,hs (X.length+1) x:=fun x U=>by
  obtain⟨k,es,aG,rfl⟩:=fa x U
  exact zk _ _
 simp only[B0,go_sem,he,bJ]
 refine k4 p.dr e3 (step:=fun _ u (_:Unit)=>if decide (bT p u.str<u.kr)=true then dQ.out true else dQ.go ()) (fin:=fun _=>false)
  (St:=fun i a e ai=>(e 0=.t (.ip (oo c1 c2 lt p))∧e 81=.t (.aP c2 4 (p.dr.map e3))∧e 82=.t (I (p.dr.length:Nat))∧e 83=.t (I (i:Nat)))∧ai=.gone::X)
  (Ex:=fun r x e ai=>(r=false∧x=.exit 6∧e 0=.t (.ip (oo c1 c2 lt p))∧ai=.gone::X)∨(r=true∧x=.ret∧e 2=.t (I 341))) (s:=()) (by omega) ?_ ?_ (by omega) ?_ ?_
 ·intro i u a e ai Y R hm hi U bx aB hw ⟨⟨bE,s1,s2,a8⟩,aY⟩ an
  subst aY
  obtain⟨gy,iY⟩:=nW u hm
  obtain⟨gj,mT⟩:=wv (p:=p) ⟨gy,iY⟩
  have jM:u.str.toNat<p.aK.length:=by omega
  have hy:∀(y:a9) (e:aM),iq (X.length+1) e (.gone::(X++[y]))=some (kV (.gone::(X++[y])) (bV (X.length+1)) e,.gone::X):=fun y e=>by
   unfold iq
   rw[a2 (by simp),show List.take (X.length+1) (a9.gone::(X++[y]))=.gone::X by simp]
   simp only[b5,dk,Ch QX]
  have an7:=an
  generalize aE:decide (bT p u.str<u.kr)=q at an
  generalize bT p u.str=P at *
  obtain⟨s,sM,f,dA⟩:=u
  simp only at gy iY gj jM aE
  cases q
  ·simp only[fJ,et,g6]at an
   (repeat' first|simp only[Tk,Iq,go_sem,bE,s1,s2,a8,aB,hw,bx,gj,gy,jM,aE,hy,mM,nu,bJ]|with_reducible first|refine aZ fun _=>?_|refine a1 ?_|fail)
   refine an _ _ ⟨?_,rfl⟩
   simp only[go_sem]
  ·simp only[cQ,lg]at an
   (repeat' first|simp only[Tk,Iq,go_sem,bE,s1,s2,a8,aB,hw,bx,gj,gy,jM,aE,mM,nu,bJ]|with_reducible first|refine aZ fun _=>?_|refine a1 ?_|fail)
   refine an _ _ _ (.inr ⟨by first|rfl|trivial,rfl,?_⟩)
   simp only[go_sem]
 ·intro a e ai Y R aB ⟨⟨bE,s1,s2,a8⟩,aY⟩ an
  subst aY
  simp only[Tk,Iq,go_sem,bE,s1,s2,a8,aB]
  all_goals(refine an _ _ _ (.inl ⟨by first|rfl|trivial,rfl,?_,rfl⟩);simp only[go_sem,bE])
 ·refine⟨?_,rfl⟩
  simp only[go_sem,he,bJ]
 ·intro x e ai aE
  rw[UT (fun _ u=>decide (bT p u.str<u.kr)) (fun _ l=>yN p l) (fun _=>rfl) (fun _ _ _=>rfl)]at aE
  rcases aE with⟨ad,rfl,ag,rfl⟩|⟨ad,rfl,ag⟩
  ·rw[ad]at bk
   simp only[fJ,et]at bk
   cases lt
   ·simp only[B0,go_sem,ag]
    exact bk _ _ (by simp only[go_sem])
   ·simp only[B0,go_sem,ag]
    exact bk _ _ (by simp only[go_sem])
  ·rw[ad]at bk
   simp only[B0,go_sem,ag]
   exact bk _ _ (by rw[ag];rfl)
omit iG ow nW jr in
theorem alO{bo:aj}:∀(X:aj) (i:Nat),1≤i→(∀ x∈X,∃(k:Nat) (es:List T) (aG:Nat),x=.row k (es.map .t) aG)→tl bo (fun o=>[0].contains o) i X=some X:=by
 intro X
 induction X with
 | nil=>intro i _ _;rfl
 | cons x X au =>
  intro i hi fa
  obtain⟨k,es,aG,rfl⟩:=fa x (by simp)
  have av:([0]:List Nat).contains i=false:=by simp;omega
  rw[tl]
  rw[av,au (i+1) (by omega) (fun x U=>fa x (by simp[U]))]
  simp only[fJ,et,dk,zk,cQ]
def vL(p:b7)(all:Int):Bool:=p.dr.any (fun u=>decide (63<vj p all (p.dr.filter (fun v=>decide (v.port=u.port)))))
def DA(p:b7)(lt:Bool):Int:=if vL p (ga p.aK:Nat)=true then 7 else if yN p p.dr=true then 341 else if lt=true then 342 else 0
theorem aiY(sm:ga p.aK≤960):rZ Tryz.prog pol 23 [.ip (oo c1 c2 lt p)] (I (DA p lt)):=by
 have ln:=Ns c1 p.aK (by omega) (fun x U=>by have:=ow x U;omega)
 rw[a2 (by omega)]at ln
 obtain⟨aR,jn⟩:∃ aR,10000<aR:=⟨20000,by omega⟩
 obtain⟨bn,sn⟩:∃ bn:Nat,bn=bn:=⟨0,rfl⟩
 obtain⟨all,ie⟩:∃ all:Int,all=(ga p.aK:Nat):=⟨_,rfl⟩
 have ae:0≤all∧all≤960:=by omega
 unfold DA
 rw[← ie]at ln ⊢
 have lP:=avK c1 c2 lt p jr all (1+1000000) aR bn (by omega) jn
 refine awb sound axm (live:=[0,3,50]) (n:=aR) (d:=bn) (by simp) (by simp) (by rw[show(iz 23).ntmps=104 from by kernel_rfl];show 1≤104;omega) ?_
 rw[nv,apU]
 change c6 Tryz.prog pol (a0 Tryz.prog pol) (inl Tryz.prog pol (a0 Tryz.prog pol) aR bn) aR 23 Te _ _ _
 simp only[Te,go_sem]
 rw[nv,apV]
 change c6 Tryz.prog pol (a0 Tryz.prog pol) (inl Tryz.prog pol (a0 Tryz.prog pol) aR bn) aR 23 Tf _ _ _
 simp only[Tf,go_sem,ln]
 rw[nv,apW]
 change c6 Tryz.prog pol (a0 Tryz.prog pol) (inl Tryz.prog pol (a0 Tryz.prog pol) aR bn) aR 23 Tg _ _ _
 (repeat' first|simp only[Tg,go_sem]|with_reducible first|refine aZ fun _=>?_|refine a1 ?_|fail)
 rw[nv,apX]
 change c6 Tryz.prog pol (a0 Tryz.prog pol) (inl Tryz.prog pol (a0 Tryz.prog pol) aR bn) aR 23 Th _ _ _
 simp only[Th,go_sem]
 rw[nv,apY]
 change c6 Tryz.prog pol (a0 Tryz.prog pol) (inl Tryz.prog pol (a0 Tryz.prog pol) aR bn) aR 23 Mc _ _ _
 simp only[Mc,go_sem,bJ]
 with_reducible refine lP _ _ ?_ ?_
 ·simp only[go_sem,bJ]
 ·intro e l X e7 bw bZ eB
  simp only[Mc,go_sem,e7,bw,bZ]
  rw[nv]
  have bl:∀ t (x:T),e t=.t x→kV (.map (fk ij pI l)::X) (fun o=>[0].contains o) e t=.t x:=fun t x h=>by simp only[kV,h,dV,jk,cL,cQ]
  have FN:=bl 0 _ e7
  have jA:=bl 3 _ bw
  refine⟨0,fk ij pI l,.gone::X,fun i=>∀ k o n,l[i]? = some (k,(o,n))→¬ 63<vj p all (p.dr.filter (fun u=>decide (u.port=k))),bZ,rfl,?_,?_,?_⟩
  ·rw[tl,alO X 1 (by omega) eB.g2]
   rfl
  ·intro oH i dF jm
   rw[fk,eE]at jm
   obtain⟨⟨k,o,n⟩,ZI,rfl⟩:∃ v,l[i]? = some v∧(ij v.1,pI v.2)=dF:=by
    cases ao:l[i]? with
    | none=>rw[ao]at jm;cases jm
    | some v=>rw[ao]at jm;cases jm;exact⟨v,rfl,rfl⟩
   obtain⟨us,aG,HI,ll,bN,me⟩:=eB.get k o n (gp ZI)
   subst ll
   have aoB:us.length≤192:=by
    have:=AR (fun u=>decide (u.port=k)) p.dr
    rw[HI];omega
   rw[apZ]
   change c6 Tryz.prog pol (a0 Tryz.prog pol) (inl Tryz.prog pol (a0 Tryz.prog pol) aR bn) aR 23 Et _ _ _
   refine ahP c1 c2 lt p iG ow nW all ae aR bn jn us (fun u hu=>by rw[HI]at hu;exact(AT.1 hu).1) aoB X eB.g2 o aG bN me oH _ _ ?_ ?_ ?_
   ·simp only[NF,eW,eR]
    refine⟨FN,jA,rfl,rfl⟩
   ·intro hw bs hC cz avW
    refine .inl ⟨rfl,fun bg cC n' ai=>?_,rfl,fun t=>?_⟩
    ·rw[ZI]at ai
     cases ai
     rw[← HI]
     exact hw
    ·by_cases ax:t=0∨t=3∨t=50
     ·rcases ax with rfl|rfl|rfl
      ·simp only[eR,eW];exact hC.trans FN.symm
      ·simp only[eR,eW];exact cz.trans jA.symm
      ·simp only[eR,eW];exact avW
     ·have:([0,3,50]:List Tmp).contains t=false:=by
       simp only[List.contains_eq_mem,iu,mG,mE,oi]
       exact ax
      simp only[eR,this,fJ,et]
   ·intro hw bs a7
    have aI:vL p all=true:=by
     unfold vL
     rw[Pm]
     cases hu:us with
     | nil=>rw[hu]at hw;simp[vj]at hw
     | cons u r =>
      have mT:u∈us:=by rw[hu];simp
      rw[HI]at mT
      obtain⟨ad,ag⟩:=AT.1 mT
      refine⟨u,ad,?_⟩
      rw[ho]
      rw[ka ag,← HI]
      exact hw
    rw[a6 aI]
    refine .inr ⟨rfl,rfl,[bs 2],rfl,?_⟩
    rw[a7]
    rfl
  ·intro amH oH
   have aI:vL p all=false:=by
    unfold vL
    rw[Pe]
    intro u hu
    obtain⟨⟨o,n⟩,az⟩:=eB.no u hu
    obtain⟨i,hi⟩:=Ka az
    rw[ho]
    exact amH i (by simp only[fk,bJ];exact(cD.1 hi).1) _ _ _ hi
   rw[a2 (by rw[aI];simp),ap2]
   change c6 Tryz.prog pol (a0 Tryz.prog pol) (inl Tryz.prog pol (a0 Tryz.prog pol) aR bn) aR 23 B0 _ _ _
   refine aw7 c1 c2 lt p nW jr aR bn jn X eB.g2 _ _ ?_ ?_
   ·simp only[eW,eR]
    exact FN
   ·intro bs ai a7
    refine⟨rfl,[bs 2],rfl,?_⟩
    rw[a7]
    rfl
end
end Go.Proofs.YtogagakgmbkonaaGreat
namespace Go.Abs
open Go
variable{P:Program}{pol:c4}{f:FuncId}{n:Nat}
def Ux(l:Nat)(fT:Act→World→Prop)(Q:Exit→Act→World→Prop):Exit→Act→World→Prop
 | .goto gg,a,w=>gg=l∧fT a w
 | e,a,w=>Q e a w
theorem aA8{F:Fence}{m:Nat}{a:Act}{w:World}{Q:Exit→Act→World→Prop}{c rest:Code}(l:Nat)(fT:Nat→Act→World→Prop)(aI:findLabel c l=some rest)(first:c.wpIn F m P (Ux l (fun a w=>∃ k,fT k a w) Q) a w)
  (pass:∀ k a w,fT k a w→rest.wpIn F m P (Ux l (fun cb w'=>∃ bg,bg<k∧fT bg cb w') Q) a w):(Code.scope c).wpIn F m P Q a w:=by
 intro b k cs tD ab al
 have bE:step P (lone (b.atR a (.code (.scope c)::k)) cs w)=.next (lone (b.atR a (.code c::.inScope c::k)) cs w):=step_lone_go (by simp[stepG,stepG.exec,Frame.atR])
 have bo:(lone (b.atR a (.code (.scope c)::k)) cs w).fenced P F:=fenced_calm ab al rfl
 have ay:gotoIn l (.inScope c::k)=some (.code rest::.inScope c::k):=by simp[gotoIn,aI]
 have U:∀ id,exitTo id (.inScope c::k)=exitTo id k:=fun id=>by simp[exitTo]
 have s1:∀ kf kx,step P (lone (b.atR kf (.inScope c::k)) cs kx)=.next (lone (b.atR kf k) cs kx):=fun kf kx=>step_lone_go (by simp[stepG,stepG.exec,Frame.atR])
 have key:∀ N a w,fT N a w→∃ e cb w',Q e cb w'∧ArrivesIn (Machine.fenced P F) P (lone (b.atR a (.code rest::.inScope c::k)) cs w) b k cs e cb w':=by
  intro N
  induction N using Nat.strongRecOn with
  | _ N au =>
   intro a w Hb
   obtain⟨e,kf,kx,aE,mg⟩:=pass N a w Hb b (.inScope c::k) cs tD ab al
   cases e with
   | normal=>exact⟨.normal,kf,kx,aE,StepsIn.trans mg (.one (fenced_calm ab al rfl) (s1 kf kx))⟩
   | exit id=>exact⟨.exit id,kf,kx,aE,fun bg an=>mg.1 bg (by rw[U];exact an),fun su an=>mg.2 su (by rw[U];exact an)⟩
   | goto gg =>
    obtain⟨rfl,OG,aB,QL⟩:=aE
    obtain⟨Qa,Px,Wn,R0,Q2⟩:=au OG aB kf kx QL
    exact⟨Qa,Px,Wn,R0,.of_steps (mg.1 _ ay) Q2⟩
   | ret=>exact⟨_,kf,kx,aE,mg⟩
   | panic br=>exact⟨_,kf,kx,aE,mg⟩
   | outgrown=>exact⟨_,kf,kx,aE,mg⟩
 obtain⟨e,kf,kx,aE,mg⟩:=first b (.inScope c::k) cs tD ab al
 cases e with
 | normal=>exact⟨.normal,kf,kx,aE,.head bo bE (StepsIn.trans mg (.one (fenced_calm ab al rfl) (s1 kf kx)))⟩
 | exit id=>exact⟨.exit id,kf,kx,aE,fun bg an=>.head bo bE (mg.1 bg (by rw[U];exact an)),fun su an=>let⟨k₁,ad,ag⟩:=mg.2 su (by rw[U];exact an);⟨k₁,ad,.head bo bE ag⟩⟩
 | goto gg =>
  obtain⟨rfl,N,QL⟩:=aE
  obtain⟨Qa,Px,Wn,R0,Q2⟩:=key N kf kx QL
  exact⟨Qa,Px,Wn,R0,.of_steps (.head bo bE (mg.1 _ ay)) Q2⟩
 | ret=>exact⟨_,kf,kx,aE,.of_steps (.one bo bE) mg⟩
 | panic br=>exact⟨_,kf,kx,aE,.of_steps (.one bo bE) mg⟩
 | outgrown=>exact⟨_,kf,kx,aE,.of_steps (.one bo bE) mg⟩
structure WA(P:Program)(f:FuncId)(fn:Func)(nq b9 b3 qH:Code)(l:Nat)(jh:Tmp)(cG nr:Code)(rs:List (Nat × Option (Bool × Nat))):Prop where
 aI:P.funcs[f]? = some fn
 ab:fn.body=some (.seq nq (.scope (.seq b9 (.seq (.label l) (.seq (.seq b3 (.cond (.tmp jh) (.seq cG (.seq nr (.goto l))) .skip)) (.seq qH .ret))))))
 ad:findLabel b9 l=none
 hh:uE P fn.results.toList=some rs
 name:fn.name ≠ "runtime.NumGoroutine"
theorem asQ[cf]{fn:Func}{rs:List (Nat × Option (Bool × Nat))}{r:T}{D a5:c8}{a4:dt}{w w':World}{cb:Act}{bz:Env}{bs:aM}{ai:aj}(hh:uE P fn.results.toList=some rs)(tp:fI fn.ntmps bs bz)(n9:St pol { N:=w.heap.size,W:=w,D:=D } (w.heap.size,[]) a5 a4 ai w' none cb bz)(mB:Ext D (fun _ _=>none) w a5 a4 w')
  (az:∃ vs,jR bs ai rs=some vs∧snap ai ez 20 (one vs)=some r):LeavesInM (fu none) 0 P fn cb.tmps (fun e w'=>∃ v,e=.returned v∧sU w w'∧eO (wk D w w') w' v r) cb.defers .returning w':=by
 obtain⟨vs,g9,ox⟩:=az
 obtain⟨Jn,GQ,I6,GU⟩:=n9.marks
 rw[GQ]
 refine M7 (Z:={ N:=w.heap.size,W:=w,D:=D }) (D:=a5) (β:=a4) (h:=ai) (env:=bz) (w0:=w) (D2:=D) (β2:=fun _ _=>none) (by simp) (bP _) (N:=w.heap.size) (bP _) (fun _=>True) (fun _ _ _ _=>trivial) (fun la _ i4 oY ub GP=>?_) Jn w' I6 GU trivial n9.inv n9.gK mB n9.env
 have qp:qa P bz ai fn.results.toList=some vs:=(NA tp hh).trans g9
 obtain⟨bU,az,vY⟩:=Jk (P:=P) qp GP i4
 refine⟨bU,az,bU,rfl,⟨i4.g.jS,i4.g.dy,i4.g.os,i4.g.out⟩,?_⟩
 have J:=CM (D2:=iy a5 a4 ez) (fun o x _ U=>i4.obj o x U) (fun b ab=>.inl ab) (fun o e b k av ab=>.inr ⟨o,e,k,av,ab⟩) 20 _ bU r ox vY
 have g:=i4.g.iy ez
 refine J.mono (fun b ab=>?_) (fun _ _=>rfl)
 by_cases ao:b<w.heap.size
 ·exact .inl (g.lM b ab ao)
 ·exact .inr ⟨by omega,g.hV b ab,fun ds ra=>(g.eU b ds ra (by simp;omega)).1 ab⟩
theorem alP(cE:Sound P pol){fn:Func}{nq b9 b3 qH:Code}{l:Nat}{jh:Tmp}{cG nr:Code}{rs:List (Nat × Option (Bool × Nat))}(G:WA P f fn nq b9 b3 qH l jh cG nr rs){Iv:Nat→aM→aj→Prop}{aq:List T}{r:T}{d:Nat}(Ek:aq.length≤fn.ntmps)
  (hQ:nv P pol (a0 P pol) (inl P pol (a0 P pol) n d) n f fn.ntmps [nq,b9] (fun e h=>∃ k,Iv k e h) (pH (aq.map .t)) [])
  (anI:∀ k e h,Iv k e h→iO P pol (a0 P pol) (inl P pol (a0 P pol) n d) n f (eS P pol f fn.ntmps 0 b3) (fun x bs ai=>x=.normal ∧
   ((bs jh=.t (.aA (.bool true))∧iO P pol (a0 P pol) (inl P pol (a0 P pol) n d) n f (eS P pol f fn.ntmps 0 cG) (fun x aW ag=>x=.normal∧iO P pol (a0 P pol) (inl P pol (a0 P pol) n d) n f (eS P pol f fn.ntmps 0 nr) (fun x bw aJ=>x=.normal∧∃ bg,bg<k∧Iv bg bw aJ) aW ag) bs ai) ∨
    (bs jh=.t (.aA (.bool false))∧iO P pol (a0 P pol) (inl P pol (a0 P pol) n d) n f (eS P pol f fn.ntmps 0 qH) (fun x aW ag=>x=.normal∧∃ vs,jR aW ag rs=some vs∧snap ag ez 20 (one vs)=some r) bs ai))) e h):rZ P pol f aq r:=by
 letI:cf:=⟨fun f c=>codeOk pol n3 f c=true⟩
 have fq:∀ f c,cf.ok f c↔codeOk pol n3 f c=true:=fun _ _=>Iff.rfl
 have dD:=A1 cE
 have h3:∀ I,j9 P pol I→sT P pol (a0 P pol) I n3:=fun I bK=>KG cE.mix dD bK
 have bK:=MW (n:=n) fq cE.prog dD h3 d
 have ck:=(cE.prog.fns f fn _ G.aI G.ab).1
 simp only[codeOk,fe]at ck
 obtain⟨aun,auo,_,⟨aup,⟨auq,aur,_⟩,_⟩,aus,_⟩:=ck
 refine⟨⟨fn,_,G.aI,G.ab,G.name⟩,fun w D args aF ay dn lj=>?_⟩
 have hi:Inv { N:=w.heap.size,W:=w,D:=D } D (fun _ _=>none) [] w :=
  ⟨⟨bP _,fun _ _=>rfl,rfl,rfl,aF,fun b ab _=>ab,fun o e b k ab=>by simp at ab,fun o e b k cC bs bg ab=>by simp at ab,
   fun b ds ab bG=>absurd (lU ab) (by simp at bG ⊢;omega)⟩,fun o x U=>by simp at U,fun o e y ar=>by simp at ar⟩
 have jo:ir D (fun _ _=>none) w args.toList (aq.map .t):=Cu dn lj
 have rb:=DD jo fn.ntmps
 simp only[J9]at rb
 refine callsIn_of_wp_marks (F:=fu none) G.aI G.ab trivial ?_ rfl
 simp only[nv]at hQ
 refine wpIn_seq (wy fq dD bK (h3 _ bK) (M:=(w.heap.size,[])) (KO (by simpa using Ek)) hQ aun ⟨hi,rb,ay,.nil,fun l ao=>by simp at ao⟩ (bP _) fun x e7 bo aBL Ox Ww w0 lH ex al amD U VX p6=>?_)
 obtain⟨rfl,amu⟩:=al
 cases U
 obtain⟨fT,Hb⟩:∃ fT:Nat→Act→World→Prop,fT=fun k cJ cI=>∃ jV β1 aT ad eg,Iv k aT ad∧fI fn.ntmps aT eg∧St pol { N:=w.heap.size,W:=w,D:=D } (w.heap.size,[]) jV β1 ad cI none cJ eg∧Ext D (fun _ _=>none) w jV β1 cI:=⟨_,rfl⟩
 have tail:∀ k cJ cI,fT k cJ cI→∀ OH:Act→World→Prop,(∀ bg cU dZ,bg<k→fT bg cU dZ→OH cU dZ) →
   (Code.seq (.seq b3 (.cond (.tmp jh) (.seq cG (.seq nr (.goto l))) .skip)) (.seq qH .ret)).wpIn (fu none) 0 P (Ux l OH (bodyPostM (fu none) 0 P fn (fun e w'=>∃ v,e=.returned v∧sU w w'∧eO (wk D w w') w' v r))) cJ cI:=by
  intro k cJ cI aU OH amn
  rw[Hb]at aU
  obtain⟨jV,β1,aT,ad,eg,Bw,xA,hD,dW⟩:=aU
  refine wpIn_seq (wpIn_seq (wy fq dD bK (h3 _ bK) xA (anI k aT ad Bw) aup hD dW.size fun x aW ag hx D2 β2 dZ cU ex al DU U m3 fo=>?_))
  obtain⟨rfl,al⟩:=al
  cases U
  have mV:=m3.rep (.tmp jh)
  rw[show g7 pol hx (.tmp jh)=aW jh from DU.get jh]at mV
  rcases al with⟨af,al⟩|⟨af,al⟩
  ·rw[af]at mV
   refine wpIn_cond_true mV.dN.fS.1 ?_
   refine wpIn_seq (wy fq dD bK (h3 _ bK) DU al auq m3 (kP dW.size fo.size) fun x bw aJ sd CV FO hE dU ex Ef QZ U vd ps=>?_)
   obtain⟨rfl,Ef⟩:=Ef
   cases U
   refine wpIn_seq (wy fq dD bK (h3 _ bK) QZ Ef aur vd (kP dW.size (kP fo.size ps.size)) fun x cB bL akk afO aBq la gA ex aol amE U VY ub=>?_)
   obtain⟨rfl,bg,aB,anx⟩:=aol
   cases U
   refine wpIn_goto ⟨rfl,amn bg gA la aB ?_⟩
   rw[Hb]
   exact⟨afO,aBq,cB,bL,akk,anx,amE,VY,dW.trans (fo.trans (ps.trans ub))⟩
  ·rw[af]at mV
   refine wpIn_cond_false mV.dN.fS.1 (wpIn_skip ?_)
   refine wpIn_seq (wy fq dD bK (h3 _ bK) DU al aus m3 (kP dW.size fo.size) fun x bw aJ sd CV FO hE dU ex al QZ U vd ps=>?_)
   obtain⟨rfl,al⟩:=al
   cases U
   refine wpIn_ret ?_
   exact asQ G.hh QZ vd (dW.trans (fo.trans ps)) al
 refine aA8 l fT (rest:=.seq .skip (.seq (.seq b3 (.cond (.tmp jh) (.seq cG (.seq nr (.goto l))) .skip)) (.seq qH .ret))) (by simp[findLabel,G.ad]) ?_ fun k cJ cI aU=>wpIn_seq (wpIn_skip (tail k cJ cI aU _ fun bg cU dZ aB tz=>⟨bg,aB,tz⟩))
 refine wpIn_seq (wy fq dD bK (h3 _ bK) amD amu auo VX p6.size fun x aT ad eg jV β1 cI cJ ex al xA U hD dW=>?_)
 obtain⟨rfl,k,Bw⟩:=al
 cases U
 refine wpIn_seq (wpIn_label (tail k cJ cI (by rw[Hb];exact⟨jV,β1,aT,ad,eg,Bw,xA,hD,p6.trans dW⟩) _ fun bg cU dZ _ tz=>⟨bg,tz⟩))
end Go.Abs
namespace Go.Proofs.YtogagakgmbkonaaGreat
open Go Go.Abs
abbrev ib:=Int × Int
abbrev gq(e:ib):T:=.agg [I e.1,I e.2]
abbrev DL(c:Bool)(es:List ib)(cj:Int):List T:=[.aP c 2 (es.map gq),I cj]
abbrev gW(c:Bool)(es:List ib)(cj:Int):T:=.agg (DL c es cj)
def eD:List ib→Int
 | []=>0
 | e::r=>e.2+eD r
def ff:List ib→Int→Nat × Int
 | [],_=>(0,0)
 | e::r,t=>if e.2≤t then((ff r (t-e.2)).1+1,(ff r (t-e.2)).2)else(0,e.2-t)
noncomputable def Ui:C :=
 .ops ([
 aL 2 (.xf false (.v 0)),
 aL 4 (.e9 (bh 0)),
 aL 5 (.e9 (bh 0))])
noncomputable def Uj:C :=
 .eV [] ([
 aa 6 1,
 aQ 7 1 2,
 pv 8 7 (.fL false 1 (.v 7)),
 aL 9 (.bin .rem false (.v 6) (.v 8)),
 aQ 10 1 2,
 pv 11 10 (.fL false 1 (.v 10)),
 aL 12 (.bin .add false (.v 9) (.v 11)),
 aQ 13 1 2,
 pv 14 13 (.fL false 1 (.v 13)),
 aL 15 (.bin .rem false (.v 12) (.v 14)),
 aa 1 15])
noncomputable def MU:C :=
 .ops ([
  aa 16 1,
  aQ 17 0 2,
  aX 18 1 17,
  aa 19 4,
  aL 20 (.hz 2 (.v 18) (.v 19)),
  aQ 21 1 20,
  aX 22 1 21,
  aL 23 (.bin .geq false (.v 16) (.v 22))])
noncomputable def Uk:C :=
 .ops ([
  aa 24 1,
  aQ 25 0 2,
  aX 26 1 25,
  aa 27 4,
  aL 28 (.hz 2 (.v 26) (.v 27)),
  aQ 29 1 28]++bc [2,4,24,29] ([
  aX 30 1 29,
  aL 31 (.bin .sub false (.v 24) (.v 30)),
  aa 1 31]))
noncomputable def Ul:C :=
 .ops ([
  aa 32 4,
  aL 33 (.bin .add false (.v 32) (bh 1)),
  aa 4 33])
noncomputable def Um:C :=
 .eV [(2,9),(6,9)] ([
 aa 34 4,
 aQ 35 0 2,
 pv 36 35 (.fL false 1 (.v 35)),
 aa 37 4,
 aL 38 (.hz 2 (.v 36) (.v 37)),
 aQ 39 1 38]++bc [1,34,39] ([
 pv 40 39 (.fL false 1 (.v 39)),
 aa 41 1,
 aL 42 (.bin .sub false (.v 40) (.v 41)),
 aa 4 34,
 aa 5 42]))
def Ju:Code→Code
 | .scope c=>c
 | c=>c
def XN:Code→Code
 | .cond _ a _=>a
 | c=>c
noncomputable abbrev td(n:Nat):Code:=match n with
 | 0=>n8 (nK 97)
 | 1=>n8 (Ju (fH (nK 97)))
 | 2=>n8 (n8 (fH (fH (Ju (fH (nK 97))))))
 | 3=>n8 (XN (fH (n8 (fH (fH (Ju (fH (nK 97))))))))
 | 4=>n8 (fH (XN (fH (n8 (fH (fH (Ju (fH (nK 97)))))))))
 | _=>n8 (fH (fH (fH (Ju (fH (nK 97))))))
theorem arj:eS Tryz.prog pol 97 (iz 97).ntmps 0 (td 0)=Ui:=by kernel_rfl
theorem ark:eS Tryz.prog pol 97 (iz 97).ntmps 0 (td 1)=Uj:=by kernel_rfl
theorem arl:eS Tryz.prog pol 97 (iz 97).ntmps 0 (td 2)=MU:=by kernel_rfl
theorem arn:eS Tryz.prog pol 97 (iz 97).ntmps 0 (td 3)=Uk:=by kernel_rfl
theorem aro:eS Tryz.prog pol 97 (iz 97).ntmps 0 (td 4)=Ul:=by kernel_rfl
theorem arp:eS Tryz.prog pol 97 (iz 97).ntmps 0 (td 5)=Um:=by kernel_rfl
theorem al0:WA Tryz.prog 97 (iz 97) (td 0) (td 1) (td 2) (td 5) 0 23 (td 3) (td 4) [(4,none),(5,none)] where
 aI:=by kernel_rfl
 ab:=by kernel_rfl
 ad:=by kernel_rfl
 hh:=by kernel_rfl
 name:=bne_iff_ne.mp (show ((iz 97).name != "runtime.NumGoroutine")=true from by kernel_rfl)
theorem drop_cons{α:Type}{l:List α}{i:Nat}(h:i<l.length):l.drop i=l[i]::l.drop (i+1):=WX h
theorem yF:∀(es:List ib) (i:Nat),(∀ e∈es,1≤e.2)→0≤eD (es.drop i)∧eD (es.drop i)≤eD es:=by
 intro es
 induction es with
 | nil=>intro i _;simp[eD]
 | cons e r au =>
  intro i h
  have ad:=h e (by simp)
  cases i with
  | zero=>have:=(au 0 fun x U=>h x (by simp[U])).1;simp only[l6,eD]at this ⊢;omega
  | succ i=>have:=au i fun x U=>h x (by simp[U]);simp only[Ge,eD];omega
theorem akU(c:Bool)(es:List ib)(cj t:Int)(sm:1≤cj∧cj≤9600000)(J:eD es=cj)(ao:es.length≤128)(av:∀ e∈es,1≤e.2)(ax:0≤t∧t≤1099511627776) :
  rZ Tryz.prog pol 97 [gW c es cj,I t] (.ch [I ((ff es (t % cj)).1:Nat),I (ff es (t % cj)).2]):=by
 obtain⟨aR,jn⟩:∃ aR,10000<aR:=⟨20000,by omega⟩
 obtain⟨bn,sn⟩:∃ bn:Nat,bn=bn:=⟨0,rfl⟩
 have ql:0≤t % cj:=nG _ (by omega)
 have h5:t % cj<cj:=l5 _ (by omega)
 refine alP sound al0 (n:=aR) (d:=bn) (Iv:=fun k e h=>∃(i:Nat) (x:Int),(e 1=.t (I x)∧e 2=.t (.ip (DL c es cj))∧e 4=.t (I (i:Nat)))∧h=[]∧i+k=es.length∧0≤x∧x<eD (es.drop i)∧ff es (t % cj)=((ff (es.drop i) x).1+i,(ff (es.drop i) x).2)) (by rw[show(iz 97).ntmps=43 from by kernel_rfl];show 2≤43;omega) ?_ ?_
 ·have a3:t.tmod cj=t % cj:=jZ (by omega)
  have a7:(t % cj+cj).tmod cj=t % cj:=by rw[jZ (by omega),Int.add_emod_right,F4 _ (Int.dvd_refl _)]
  have cz:IntKind.i64.wrap (t % cj+cj)=t % cj+cj:=wrap_i64 (by omega) (by omega)
  have eJ:cj≠0:=by omega
  generalize t % cj=m at *
  rw[nv,arj]
  change c6 Tryz.prog pol (a0 Tryz.prog pol) (inl Tryz.prog pol (a0 Tryz.prog pol) aR bn) aR 97 Ui _ _ _
  simp only[Ui,go_sem]
  rw[nv,ark]
  change c6 Tryz.prog pol (a0 Tryz.prog pol) (inl Tryz.prog pol (a0 Tryz.prog pol) aR bn) aR 97 Uj _ _ _
  (repeat' first|simp only[Uj,go_sem,a3,a7,cz,eJ]|with_reducible first|refine aZ fun _=>?_|refine a1 ?_|fail)
  rw[nv]
  refine⟨es.length,0,m,?_,rfl,by omega,ql,by rw[l6];omega,by simp⟩
  simp only[go_sem]
 ·rintro k e h ⟨i,x,⟨aT,aW,cB⟩,rfl,xJ,sw,ko,iC⟩
  have hi:i<es.length:=by
   by_cases hi:i<es.length
   ·exact hi
   ·rw[List.drop_eq_nil_of_le (by omega)]at ko;simp only[eD]at ko;omega
  have bx:(es.map gq)[i]? = some (gq es[i]):=by rw[eE,fC hi];rfl
  have hw:IntKind.i64.wrap ((i:Nat)+1:Int)=(i:Nat)+1:=wrap_i64 (by omega) (by omega)
  have nV:=(yF es i av).2
  rw[drop_cons hi]at ko iC nV
  simp only[eD,ff]at ko iC nV
  have vU:=av es[i] (oP hi)
  have ab:=yF es (i+1) av
  have nX:es[i].2≤x→IntKind.i64.wrap (x-es[i].2)=x-es[i].2:=fun _=>wrap_i64 (by omega) (by omega)
  have aoH:¬ es[i].2≤x→IntKind.i64.wrap (es[i].2-x)=es[i].2-x:=fun _=>wrap_i64 (by omega) (by omega)
  rw[arl,arn,aro,arp]
  change c6 Tryz.prog pol (a0 Tryz.prog pol) (inl Tryz.prog pol (a0 Tryz.prog pol) aR bn) aR 97 MU _ _ _
  generalize aE:decide (es[i].2≤x)=q
  cases q
  ·have rj:=r1 aE
   rw[a2 rj]at iC
   have Sh:=aoH rj
   have Zt:=iC
   simp only[nD]at Zt
   rw[Zt]
   generalize es[i]=h0 at *
   obtain⟨m,l⟩:=h0
   simp only at *
   simp only[MU,go_sem,aT,aW,cB,bx,hi,aE,bJ]
   refine .inr ?_
   change c6 Tryz.prog pol (a0 Tryz.prog pol) (inl Tryz.prog pol (a0 Tryz.prog pol) aR bn) aR 97 Um _ _ _
   (repeat' first|simp only[Um,go_sem,aT,aW,cB,bx,hi,Sh,bJ]|with_reducible first|refine aZ fun _=>?_|refine a1 ?_|fail)
   exact⟨_,rfl,rfl⟩
  ·have rj:=ka aE
   rw[a6 rj]at iC
   have Sh:=nX rj
   have zB:i+1+(k-1)=es.length∧0≤x-es[i].2∧x-es[i].2<eD (es.drop (i+1))∧ff es (t % cj)=((ff (es.drop (i+1)) (x-es[i].2)).1+(i+1),(ff (es.drop (i+1)) (x-es[i].2)).2):=⟨by omega,by omega,by omega,by rw[iC];simp only[Prod.mk.injEq,AW];omega⟩
   generalize es[i]=h0 at *
   obtain⟨m,l⟩:=h0
   simp only at *
   simp only[MU,go_sem,aT,aW,cB,bx,hi,aE,bJ]
   refine .inl ?_
   change c6 Tryz.prog pol (a0 Tryz.prog pol) (inl Tryz.prog pol (a0 Tryz.prog pol) aR bn) aR 97 Uk _ _ _
   (repeat' first|simp only[Uk,go_sem,aT,aW,cB,bx,hi,Sh,bJ]|with_reducible first|refine aZ fun _=>?_|refine a1 ?_|fail)
   change c6 Tryz.prog pol (a0 Tryz.prog pol) (inl Tryz.prog pol (a0 Tryz.prog pol) aR bn) aR 97 Ul _ _ _
   simp only[Ul,go_sem,aT,aW,cB,hw]
   refine⟨k-1,by omega,i+1,_,?_,zB.1,zB.2.1,zB.2.2.1,zB.2.2.2⟩
   simp only[go_sem]
   rfl
def CN(p:b7)(bD:Nat):T:=if p.aK.length=0 then .ch [gN,gN,I 0]else Cw (fx p bD p.aK.length [] [])
theorem ayA(c1 c2:Bool)(p:b7)(h:jt p)(bD:Nat)(ni:bD≤1999)(aw:p.aK.length=0):a0 Tryz.prog pol 9 [g1 c1 c2 p,I (bD:Nat)]=some (.ch [gN,gN,I 0]):=by
 have bB:=Cp c1 c2 p h
 have d1:decide (((bD:Nat):Int)<0)=false:=bA (by omega)
 have d2:decide ((1999:Int)<((bD:Nat):Int))=false:=bA (by omega)
 have d3:decide (((p.aK.length:Nat):Int)=0)=true:=bY (by omega)
 refine cK 10 1 art (bH rfl) ?_
 (repeat' first|simp only[acG,go_sem,bB,d1,d2,d3,bJ]|with_reducible first|refine aZ fun _=>?_|refine a1 ?_|fail)
def kS(p:b7)(lt:Bool):Int:=if 960<ga p.aK then 6 else DA p lt
theorem aiW(c1 c2 lt:Bool)(p:b7)(iG:p.aK.length≤12)(ow:∀ x∈p.aK,1≤x∧x≤240)(sm:960<ga p.aK):a0 Tryz.prog pol 23 [.ip (oo c1 c2 lt p)]=some (I 6):=by
 have ln:=Ns c1 p.aK (by omega) (fun x U=>by have:=ow x U;omega)
 rw[a6 sm]at ln
 refine cK 10 1 apT (bH rfl) ?_
 (repeat' first|simp only[abk,go_sem,ln]|with_reducible first|refine aZ fun _=>?_|refine a1 ?_|fail)
structure P0(p:b7):Prop where
 pl:p.aK.length≤12
 aK:∀ x∈p.aK,1≤x∧x≤240
 us:∀ u∈p.dr,0≤u.str∧u.str<p.aK.length
 ul:p.dr.length≤192
theorem ayD(c1 c2:Bool)(p:b7)(h:jt p)(bD:Nat)(ni:bD≤1999):rZ Tryz.prog pol 9 [g1 c1 c2 p,I (bD:Nat)] (CN p bD):=by
 unfold CN
 by_cases aw:p.aK.length=0
 ·rw[a6 aw];exact A1 sound _ _ _ (ayA c1 c2 p h bD ni aw)
 ·rw[a2 aw];exact ayC c1 c2 p h bD ni (by omega)
theorem ai1(c1 c2 lt:Bool)(p:b7)(h:P0 p):rZ Tryz.prog pol 23 [.ip (oo c1 c2 lt p)] (I (kS p lt)):=by
 unfold kS
 by_cases aw:960<ga p.aK
 ·rw[a6 aw];exact A1 sound _ _ _ (aiW c1 c2 lt p h.pl h.aK aw)
 ·rw[a2 aw];exact aiY c1 c2 lt p h.pl h.aK h.us h.ul (by omega)
inductive uk:FuncId→List T→T→Prop
 | solve (c1 c2:Bool) (p:b7) (bD:Nat) (h:jt p) (ni:bD≤1999):uk 9 [g1 c1 c2 p,I (bD:Nat)] (CN p bD)
 | check (c1 c2 lt:Bool) (p:b7) (h:P0 p):uk 23 [.ip (oo c1 c2 lt p)] (I (kS p lt))
 | find (c:Bool) (es:List ib) (cj t:Int) (sm:1≤cj∧cj≤9600000) (J:eD es=cj) (ao:es.length≤128) (av:∀ e∈es,1≤e.2) (ax:0≤t∧t≤1099511627776):uk 97 [gW c es cj,I t] (.ch [I ((ff es (t % cj)).1:Nat),I (ff es (t % cj)).2])
theorem uk.pure{f:FuncId}{aq:List T}{r:T}(h:uk f aq r):rZ Tryz.prog pol f aq r:=by
 cases h with
 | solve c1 c2 p bD h ni=>exact ayD c1 c2 p h bD ni
 | check c1 c2 lt p h=>exact ai1 c1 c2 lt p h
 | find c es cj t sm J ao av ax=>exact akU c es cj t sm J ao av ax
theorem map_inj{α:Type}{f:α→T}(aI:∀ a b,f a=f b→a=b):∀ {l gg:List α},l.map f=gg.map f→l=gg:=by
 intro l
 induction l with
 | nil=>intro gg h;cases gg with|nil=>rfl|cons x gg=>simp at h
 | cons x l au =>
  intro gg h
  cases gg with
  | nil=>simp at h
  | cons y gg =>
   simp only[gz,List.cons.injEq]at h
   rw[aI _ _ h.1,au h.2]
theorem JQ(a b:Int)(h:I a=I b):a=b:=by cases h;rfl
theorem aAe(a b:fp)(h:e3 a=e3 b):a=b:=by cases a;cases b;cases h;rfl
theorem aj4(a b:ib)(h:gq a=gq b):a=b:=by cases a;cases b;cases h;rfl
theorem adU{c1 c2 c1' c2':Bool}{p p':b7}(h:j4 c1 c2 p=j4 c1' c2' p'):p=p':=by
 obtain⟨a,b⟩:=p
 obtain⟨cb,bS⟩:=p'
 simp only[j4,List.cons.injEq,T.aP.injEq]at h
 rw[map_inj JQ h.1.2.2,map_inj aAe h.2.1.2.2]
theorem uk.uniq{f:FuncId}{aq:List T}{r qG:T}(h:uk f aq r)(ai:uk f aq qG):r=qG:=by
 generalize dI:aq=us at ai
 cases h with
 | solve c1 c2 p bD h ni =>
  cases ai with
  | solve c1' c2' p' aBQ ai aB6 =>
   simp only[List.cons.injEq,T.agg.injEq,AW]at dI
   have ad:=adU (c1:=c1) (c2:=c2) (c1':=c1') (c2':=c2') (p:=p) (p':=p') (by simpa[j4]using dI.1)
   have ag:=JQ _ _ dI.2
   rw[ad,Int.ofNat.inj ag]
 | check c1 c2 lt p h =>
  cases ai with
  | check c1' c2' ati p' ai =>
   simp only[List.cons.injEq,T.ip.injEq,AW,oo]at dI
   have ad:=adU (c1:=c1) (c2:=c2) (c1':=c1') (c2':=c2') (p:=p) (p':=p') (by simp only[j4,List.cons.injEq,AW];exact⟨dI.1,dI.2.1⟩)
   have ag:lt=ati:=by have:=dI.2.2;cases this;rfl
   rw[ad,ag]
 | find c es cj t sm J ao av ax =>
  cases ai with
  | find c' gI aBH wN aB2 gl j3 o3 jN =>
   simp only[List.cons.injEq,T.agg.injEq,T.aP.injEq,AW]at dI
   obtain⟨⟨⟨_,_,ad⟩,ag⟩,aJ⟩:=dI
   rw[map_inj aj4 ad,JQ _ _ ag,JQ _ _ aJ]
def V7(f:FuncId):Bool:=f == 3 || f == 4 || f == 8 || f == 12 || f == 14 || f == 36 || f == 61 || f == 62 || f == 98
open Classical in
noncomputable def Co:FuncId→List T→Option T:=fun f aq=>if V7 f then none else if h:∃ r,uk f aq r then some h.choose else a0 Tryz.prog pol f aq
noncomputable def cX:c4:={ pol with Jb:=Co }
theorem adX{f:FuncId}{aq:List T}{r:T}(h:rZ Tryz.prog pol f aq r):rZ Tryz.prog cX f aq r:=⟨h.1,fun w D args aF ay=>h.2 w D args aF ⟨ay.rep,ay.row⟩⟩
theorem ajg(f:FuncId):∀ c:Code,codeOk cX n3 f c=codeOk pol n3 f c:=by
 intro c
 induction c with
 | region id ops d=>cases d<;>rfl
 | seq a b rq sx=>simp only[codeOk,rq,sx]
 | cond c a b rq sx=>simp only[codeOk,rq,sx]
 | rangeFunc g bO a b rq sx=>simp only[codeOk,rq,sx]
 | block id c au=>simp only[codeOk,au]
 | loop c au=>simp only[codeOk,au]
 | scope c au=>simp only[codeOk,au]
 | _=>rfl
theorem ayL:Sound Tryz.prog cX:=by
 refine⟨sound.mix,⟨fun f fn c ad ag=>by rw[ajg];exact sound.prog.fns f fn c ad ag⟩,adV (fun _=>rfl) fun f aq r al=>?_⟩
 have al:Co f aq=some r:=al
 unfold Co at al
 split at al
 ·cases al
 ·split at al
  ·rename_i h
   cases al
   exact adX h.choose_spec.pure
  ·exact adX (A1 sound f aq r al)
theorem Gq{f:FuncId}{aq:List T}{r:T}(aI:V7 f=false)(h:uk f aq r):a0 Tryz.prog cX f aq=some r:=by
 have hex:∃ r,uk f aq r:=⟨r,h⟩
 refine Xe ?_
 show Co f aq=some r
 unfold Co
 rw[aI,a2 (by simp),dif_pos hex]
 rw[hex.choose_spec.uniq h]
theorem up{f:FuncId}{aq:List T}{r:T}(h:a0 Tryz.prog pol f aq=some r)(aI:(V7 f || (f == 9 || f == 23 || f == 97))=false:=by rfl):a0 Tryz.prog cX f aq=some r:=by
 simp only[J7,beq_eq_false_iff_ne]at aI
 refine Xe ?_
 show Co f aq=some r
 unfold Co
 rw[aI.1,a2 (by simp),dif_neg]
 ·exact h
 ·rintro⟨r,al⟩
  cases al with
  | solve=>exact aI.2.1.1 rfl
  | check=>exact aI.2.1.2 rfl
  | find=>exact aI.2.2 rfl
theorem avy(g f t:Nat)(ad:wA g=false)(ag:yp f t=false):cX.inl g f t=false:=adP g f t ad ag
theorem avA(g f t:Nat)(ad:wA g=true):cX.inl g f t=true:=adR g f t ad
theorem avz(g f t:Nat)(ad:yp f t=true):cX.inl g f t=true:=adQ g f t ad
theorem avw(g f t:Nat)(h:E3 g f t=false):cX.fresh g f t=false:=h
theorem avx(g f t:Nat)(h:E3 g f t=true):cX.fresh g f t=true:=h
theorem avD(g:Nat)(h:E4 g=false):cX.trim g=false:=h
theorem avE(g:Nat)(h:E4 g=true):cX.trim g=true:=h
theorem avM(g:Nat)(args:List ah)(h:Ak g=false):u7 cX g args=false:=adT g args h
theorem avB(g:Nat)(h:Ak g=false):cX.u6 g=false:=h
theorem avC(g:Nat)(h:Ak g=true):cX.u6 g=true:=h
attribute [go_sem] avM avw avx avy avA avz avB avC avD avE
end Go.Proofs.YtogagakgmbkonaaGreat
namespace Go.Abs
open Go
section
variable{P:Program}{pol:c4}{f:FuncId}
def KS(Z:T→Prop)(v:ah)(h:aj):Prop:=∃ r,snap h ez 20 v=some r∧Z r
theorem lh{Z:T→Prop}{x:T}{h:aj}:KS Z (.t x) h=Z x:=by simp[KS,snap]
theorem Bg{Z:T→Prop}{v:ah}{h:aj}:KS Z v h=∃ r,snap h ez 20 v=some r∧Z r:=(fun x=>x) rfl
theorem qX{dp:Nat}{c:C}{rs:List (Nat × Option (Bool × Nat))}{args:List T}{Z:T→Prop}(n d:Nat)(eA:lL P pol f=some ⟨dp,c,rs⟩)(ao:args.length≤dp)
  (hw:c6 P pol (a0 P pol) (inl P pol (a0 P pol) n d) n f c (xl rs (KS Z)) (pH (args.map .t)) []) (av:wB pol f args=none:=by rfl):∃ r,a0 P pol f args=some r∧Z r:=by
 obtain⟨v,ai,ad,r,ag,aJ⟩:=Wm (F:=⟨dp,c,rs⟩) eA (by simpa using ao) hw
 refine⟨r,Xd (n:=n) (d:=d) av ?_,aJ⟩
 unfold wI
 rw[ad]
 exact ag
end
section
variable{α:Type}{cF:Nat}{live:Option (List Tmp)}{body:(cW→aM→aj→Prop)→aM→aj→Prop}
theorem Ad{St:Nat→aM→aj→Prop}{Ex:cW→aM→aj→Prop}
  (iD:∀ k e h Y R,St k e h→(∀ bg e h,bg<k→St bg e h→Y e h)→(∀ x e h,Ex x e h→R x e h)→body (ru cF Y R) (eR live e) h)
  {R:cW→aM→aj→Prop} (bk:∀ x e h,Ex x e h→R x e h):∀(m k:Nat) (e:aM) (h:aj),k<m→St k e h→gP cF live body R m e h:=by
 intro m
 induction m with
 | zero=>intro k e h an;omega
 | succ m au =>
  intro k e h an J
  rw[IM]
  exact iD k e h _ R J (fun bg e h h4 gl=>au bg e h (by omega) gl) bk
theorem hA(l:List α)(enc:α→T){St:Nat→aM→aj→Prop}{Ex:cW→aM→aj→Prop}(ao:l.length<9223372036854775808)
  (iD:∀ i x e h Y R,x∈l→i<l.length→l[i]? = some x→(l.map enc)[i]? = some (enc x)→decide ((i:Int)<(l.length:Int))=true→IntKind.i64.wrap ((i:Int)+1)=((i+1:Nat):Int)→St i e h→(∀ e h,St (i+1) e h→Y e h)→(∀ x e h,Ex x e h→R x e h)→body (ru cF Y R) (eR live e) h)
  (mR:∀ e h Y R,decide ((l.length:Int)<(l.length:Int))=false→St l.length e h→(∀ x e h,Ex x e h→R x e h)→body (ru cF Y R) (eR live e) h)
  {R:cW→aM→aj→Prop} {m:Nat} {e:aM} {h:aj} (hm:l.length<m) (J:St 0 e h) (bk:∀ x e h,Ex x e h→R x e h):gP cF live body R m e h:=by
 refine Ad (St:=fun k e h=>∃ i,i+k=l.length∧St i e h) ?_ bk m l.length e h hm ⟨0,by omega,J⟩
 rintro k e h Y R ⟨i,xJ,J⟩ bW bk
 by_cases hi:i<l.length
 ·refine iD i l[i] e h Y R (oP hi) hi (fC hi) (by rw[eE,fC hi];rfl) (bY (by omega)) (wrap_i64 (by omega) (by omega)) J (fun e h J=>bW (k-1) e h (by omega) ⟨i+1,by omega,J⟩) bk
 ·have:i=l.length:=by omega
  subst this
  exact mR e h Y R (by simp) J bk
end
end Go.Abs
namespace Go.Proofs.YtogagakgmbkonaaGreat
open Go Go.Abs
structure DM(es:List ib)(cj:Int):Prop where
 eh:1≤es.length
 cx:es.length≤128
 e:∀ x∈es,(0≤x.1∧x.1≤255)∧1≤x.2∧x.2≤9600000
 s:eD es=cj
 c:cj≤9600000
theorem JB(a b:List ib):eD (a++b)=eD a+eD b:=by
 induction a with
 | nil=>simp[eD]
 | cons x a au=>simp only[dS,eD,au];omega
theorem aeW{es:List ib}{i:Nat}{x:ib}(h:es[i]? = some x):eD (es.take (i+1))=eD (es.take i)+x.2:=by
 rw[r3,h,JB];simp[eD]
theorem N4(es:List ib)(h:∀ e∈es,1≤e.2)(i:Nat):0≤eD (es.take i)∧eD (es.take i)≤eD es:=by
 have ad:=yF es i h
 have ag:eD es=eD (es.take i)+eD (es.drop i):=by rw[← JB,C6]
 have aJ:=yF (es.take i) 0 fun e he=>h e (C7 he)
 rw[l6]at aJ
 omega
section
variable(c:Bool)(es:List ib)(cj:Int)(h:DM es cj)
include h
theorem YD:a0 Tryz.prog pol 35 [gW c es cj]=some (I 0):=by
 have eh:=h.eh
 have cx:=h.cx
 have J:=h.s
 have af:=h.c
 have av:∀ e∈es,1≤e.2:=fun e he=>(h.e e he).2.1
 have d1:decide (((es.length:Nat):Int)<1)=false:=bA (by omega)
 have d2:decide ((128:Int)<((es.length:Nat):Int))=false:=bA (by omega)
 have d3:decide (cj=cj)=true:=bY rfl
 have d4:decide ((9600000:Int)<cj)=false:=bA (by omega)
 refine cK 1000 1 aqg (bH rfl) ?_
 (repeat' first|simp only[Tx,go_sem,d1,d2,bJ]|with_reducible first|refine aZ fun _=>?_|refine a1 ?_|fail)
 refine hA es gq (St:=fun i e ai=>(e 1=.t (.ip (DL c es cj))∧e 3=.t (I (eD (es.take i)))∧e 17=.t (.aP c 2 (es.map gq))∧e 18=.t (I (es.length:Nat))∧e 19=.t (I (i:Nat)))∧ai=[])
  (Ex:=fun x e ai=>(e 1=.t (.ip (DL c es cj))∧e 3=.t (I cj))∧x=.exit 0∧ai=[]) (by omega) ?_ ?_ (by omega) ?_ ?_
 ·intro i x e ai Y R hm hi U bx aB hw ⟨⟨s1,s2,a8,cY,bC⟩,aY⟩ bW bk
  subst aY
  obtain⟨⟨dW,fo⟩,ps,ub⟩:=h.e x hm
  have b:=N4 es av i
  have ax:=aeW U
  have nX:IntKind.i64.wrap (eD (es.take i)+x.2)=eD (es.take (i+1)):=by rw[ax];exact wrap_i64 (by omega) (by omega)
  generalize eD (es.take i)=s at *
  generalize eD (es.take (i+1))=s' at *
  obtain⟨m,l⟩:=x
  simp only at *
  have a3:decide (m<0)=false:=bA (by omega)
  have a7:decide (255<m)=false:=bA (by omega)
  have cz:decide (l<1)=false:=bA (by omega)
  have eJ:decide (9600000<l)=false:=bA (by omega)
  (repeat' first|simp only[abB,Mq,go_sem,s1,s2,a8,cY,bC,aB,hw,bx,nX,a3,a7,cz,eJ]|with_reducible first|refine aZ fun _=>?_|refine a1 ?_|fail)
  all_goals(refine bW _ _ ⟨?_,rfl⟩;simp only[go_sem,s1,a8,cY,hw])
 ·intro e ai Y R aB ⟨⟨s1,s2,a8,cY,bC⟩,aY⟩ bk
  subst aY
  rw[s4,J]at s2
  (repeat' first|simp only[abB,Mq,go_sem,s1,s2,a8,cY,bC,aB]|with_reducible first|refine aZ fun _=>?_|refine a1 ?_|fail)
  all_goals(refine bk _ _ _ ⟨?_,rfl,rfl⟩;simp only[go_sem,s1,s2])
 ·refine⟨?_,rfl⟩
  simp only[go_sem,AV,eD]
 ·rintro x e ai ⟨⟨ad,ag⟩,rfl,rfl⟩
  (repeat' first|simp only[Tx,go_sem,ad,ag,d3,d4]|with_reducible first|refine aZ fun _=>?_|refine a1 ?_|fail)
theorem YF(t:Int)(ax:0≤t∧t≤1099511627776):a0 Tryz.prog pol 96 [gW c es cj,I 0,I t,I 0]=some (I 0):=by
 have k:=YD c es cj h
 have a3:decide (t < -1099511627776)=false:=bA (by omega)
 have a7:decide (1099511627776<t)=false:=bA (by omega)
 refine cK 10 1 ari (bH rfl) ?_
 (repeat' first|simp only[acD,go_sem,k,a3,a7]|with_reducible first|refine aZ fun _=>?_|refine a1 ?_|fail)
omit h in
theorem Qc:∀(es:List ib) (x:Int),0≤x→x<eD es→∃ h0,es[(ff es x).1]? = some h0∧1≤(ff es x).2∧(ff es x).2≤h0.2∧x+(ff es x).2=eD (es.take ((ff es x).1+1)):=by
 intro es
 induction es with
 | nil=>intro x bo ad;simp only[eD]at ad;omega
 | cons e r au =>
  intro x bo ad
  simp only[eD]at ad
  unfold ff
  by_cases aE:e.2≤x
  ·rw[a6 aE]
   obtain⟨h0,a,b,c,d⟩:=au (x-e.2) (by omega) (by omega)
   refine⟨h0,by simpa using a,b,c,?_⟩
   simp only[qV,eD]
   omega
  ·rw[a2 aE]
   refine⟨e,by simp,by simp only;omega,by simp only;omega,?_⟩
   simp only[qV,AV,eD,nD]
   omega
omit h in
theorem Yo:∀(es:List ib) (i:Nat) (hi:i<es.length),(∀ e∈es,1≤e.2)→ff es (eD (es.take i))=(i,es[i].2):=by
 intro es
 induction es with
 | nil=>intro i hi;simp at hi
 | cons e r au =>
  intro i hi av
  have ad:=av e (by simp)
  cases i with
  | zero=>simp only[AV,eD,ff];rw[a2 (by omega)];simp
  | succ i =>
   have:=(N4 r (fun x U=>av x (by simp[U])) i).1
   simp only[qV,eD,ff]
   rw[a6 (by omega),show e.2+eD (r.take i)-e.2=eD (r.take i) by omega,au i (by simpa using hi) fun x U=>av x (by simp[U])]
   simp
theorem akT(x:Int)(bo:0≤x)(ad:x<cj):∃ h0,es[((ff es x).1+1) % es.length]? = some h0∧ff es ((x+(ff es x).2) % cj)=(((ff es x).1+1) % es.length,h0.2):=by
 have eh:=h.eh
 have av:∀ e∈es,1≤e.2:=fun e he=>(h.e e he).2.1
 obtain⟨h0,a,b,c,d⟩:=Qc es x bo (by rw[h.s];exact ad)
 have tx:(ff es x).1<es.length:=cD.1 a |>.1
 rw[d]
 by_cases ao:(ff es x).1+1=es.length
 ·have e7:((ff es x).1+1) % es.length=0:=by rw[ao,Nat.mod_self]
  have:=Yo es 0 (by omega) av
  simp only[AV,eD]at this
  rw[e7,ao,s4,h.s,Int.emod_self]
  exact⟨_,fC (by omega),this⟩
 ·have e7:((ff es x).1+1) % es.length=(ff es x).1+1:=Da (by omega)
  have hi:(ff es x).1+1<es.length:=by omega
  have ab:=N4 es av ((ff es x).1+1)
  have aB:eD (es.take ((ff es x).1+1))<cj:=by
   have:=N4 es av ((ff es x).1+1+1)
   rw[aeW (fC hi),h.s]at this
   have:=av _ (oP hi)
   omega
  rw[e7,J1 ab.1 aB]
  exact⟨_,fC hi,Yo es _ hi av⟩
def sF(es:List ib)(x:Int):Int:=match es[(ff es x).1]? with
 | some e=>e.1
 | none=>0
theorem Qe(t:Int)(ax:0≤t∧t≤1099511627776):a0 Tryz.prog cX 97 [gW c es cj,I t]=some (.ch [I ((ff es (t % cj)).1:Nat),I (ff es (t % cj)).2]):=by
 have eh:=h.eh
 have av:∀ e∈es,1≤e.2:=fun e he=>(h.e e he).2.1
 refine Gq rfl (.find c es cj t ⟨?_,h.c⟩ h.s h.cx av ax)
 rw[← h.s]
 have:=yF es 1 av
 cases es with
 | nil=>simp at eh
 | cons e r=>have:=av e (by simp);simp only[eD,Ge,l6]at *;omega
end
theorem arq:lL Tryz.prog cX 98=some ⟨50,MV,[(6,none)]⟩:=by kernel_rfl
theorem aqJ:lL Tryz.prog cX 61=some ⟨27,ab2,[(4,none),(5,none)]⟩:=by kernel_rfl
theorem aqK:lL Tryz.prog cX 62=some ⟨40,TW,[(4,none),(5,none)]⟩:=by kernel_rfl
theorem aqh:lL Tryz.prog cX 36=some ⟨34,Ty,[(6,none)]⟩:=by kernel_rfl
section
variable(c:Bool)(es:List ib)(cj:Int)(h:DM es cj)
include h
theorem KV(t:Int)(ax:0≤t):∃ m l,es[(ff es (t % cj)).1]? = some (m,l)∧sF es (t % cj)=m∧(ff es (t % cj)).1<es.length∧1≤(ff es (t % cj)).2∧(ff es (t % cj)).2≤9600000∧1≤cj:=by
 have eh:=h.eh
 have av:∀ e∈es,1≤e.2:=fun e he=>(h.e e he).2.1
 have sm:1≤cj:=by
  rw[← h.s]
  have:=yF es 1 av
  cases es with
  | nil=>simp at eh
  | cons e r=>have:=av e (by simp);simp only[eD,Ge,l6]at *;omega
 obtain⟨h0,a,b,c,d⟩:=Qc es (t % cj) (nG _ (by omega)) (by rw[h.s];exact l5 _ (by omega))
 refine⟨h0.1,h0.2,a,by unfold sF;rw[a],cD.1 a |>.1,b,?_,sm⟩
 have:=(h.e h0 (gp a)).2.2
 omega
theorem afZ(t:Int)(ax:0≤t∧t≤1099511627776):a0 Tryz.prog cX 61 [gW c es cj,I t]=some (.ch [I (sF es (t % cj)),I 0]):=by
 have bB:=up (YF c es cj h t ax)
 have aO:=Qe c es cj h t ax
 obtain⟨m,l,cg,c5,nR,_⟩:=KV es cj h t ax.1
 have K5:(es.map gq)[(ff es (t % cj)).1]? = some (gq (m,l)):=by rw[eE,cg];rfl
 rw[c5]
 generalize (ff es (t % cj)).1=i at *
 generalize (ff es (t % cj)).2=tL at *
 refine cK 10 1 aqJ (bH rfl) ?_
 (repeat' first|simp only[ab2,go_sem,bB,aO,K5,nR,bJ]|with_reducible first|refine aZ fun _=>?_|refine a1 ?_|fail)
omit h in
theorem ako(m vk:Int):a0 Tryz.prog pol 99 [I m,.ip [I vk]]=some (B (decide (m=vk))):=by
 refine cK 10 1 ars (bH rfl) ?_
 simp only[acF,go_sem]
theorem aze(t dA vk:Int)(ax:0≤t∧t+dA≤1099511627776)(D4:0≤dA)(hw:∀ s,0≤s→s<dA→sF es ((t+s) % cj)=vk):∃ r,a0 Tryz.prog cX 98 [gW c es cj,I t,.fn (.func 99) [] [.ip [I vk]]]=some r∧∃ n,r=I n∧(n=cj∨dA≤n)∧0≤n∧n≤2000000000:=by
 have aO:=Qe c es cj h t ⟨ax.1,by omega⟩
 obtain⟨m,l,cg,c5,nR,oY,pL,sm⟩:=KV es cj h t ax.1
 have cx:=h.cx
 have aB3:=h.c
 have uV:IntKind.i64.wrap ((es.length:Nat)+1:Int)=((es.length+1:Nat):Int):=wrap_i64 (by omega) (by omega)
 generalize hi:(ff es (t % cj)).1=i at *
 generalize anG:(ff es (t % cj)).2=tL at *
 refine qX 1000 1 arq (bH rfl) ?_
 (repeat' first|simp only[MV,go_sem,aO,uV,bJ]|with_reducible first|refine aZ fun _=>?_|refine a1 ?_|fail)
 refine hA (List.replicate (es.length+1) ()) (fun _=>.aA (.bool true)) (St:=fun j e ai=>∃ i tL n:Int,∃ rn:Nat,i=(rn:Nat)∧(e 2=.t (.fn (.func 99) [] [.ip [I vk]])∧e 3=.t (.ip (DL c es cj))∧e 7=.t (I i)∧e 8=.t (I tL)∧e 9=.t (I n)∧e 19=.t (I ((es.length+1:Nat):Int))∧e 20=.t (I (j:Nat)))∧ai=[]∧ff es ((t+n) % cj)=(rn,tL)∧0≤n∧n≤(j:Nat)*9600000)
  (Ex:=fun x e ai=>(x=.ret∧∃ n,e 6=.t (I n)∧dA≤n∧0≤n∧n≤2000000000)∨(e 3=.t (.ip (DL c es cj))∧x=.exit 0∧ai=[])) (by rw[ic];omega) ?_ ?_ (by rw[ic];omega) ?_ ?_
 ·rintro j x e ai Y R hm aU U bx aB je ⟨i,tL,n,rn,rfl,⟨s1,s2,a8,cY,bC,bt,dE⟩,rfl,aI,cF,mr⟩ bW bk
  rw[ic]at aB aU
  obtain⟨m,l,cJ,cU,dU,gA,lI,_⟩:=KV es cj h (t+n) (by omega)
  obtain⟨h0,cN,db⟩:=akT es cj h ((t+n) % cj) (nG _ (by omega)) (l5 _ (by omega))
  rw[aI]at cJ dU gA lI cN db
  simp only at cJ dU gA lI cN db
  rw[Int.emod_add_emod]at db
  have W1:(es.map gq)[rn]? = some (gq (m,l)):=by rw[eE,cJ];rfl
  have ahm:(es.map gq)[(rn+1) % es.length]? = some (gq h0):=by rw[eE,cN];rfl
  have ed:=up (ako m vk)
  have cI:IntKind.i64.wrap (n+tL)=n+tL:=wrap_i64 (by omega) (by omega)
  have dZ:IntKind.i64.wrap ((rn:Nat)+1:Int)=((rn+1:Nat):Int):=wrap_i64 (by omega) (by omega)
  have hE:Int.tmod ((rn+1:Nat):Int) ((es.length:Nat):Int)=(((rn+1) % es.length:Nat):Int):=by rw[jZ (by omega)];rfl
  have la:((es.length:Nat):Int)≠0:=by have:=h.eh;omega
  have vi:(rn+1) % es.length<es.length:=mF _ (by omega)
  have ZV:decide (m=vk)=false→dA≤n:=fun aF=>by
   have:=r1 aF
   by_cases aE:dA≤n
   ·exact aE
   ·exact absurd (cU.symm.trans (hw n cF (by omega))) this
  have atS:n+tL≤((j+1:Nat):Int)*9600000:=by push_cast;omega
  have pb:n≤2000000000:=by omega
  generalize (rn+1) % es.length=i2 at *
  obtain⟨gR,gQ⟩:=h0
  generalize aF:decide (m=vk)=d at *
  cases d
  ·simp only[Un,IK,go_sem,s1,s2,a8,cY,bC,bt,dE,aB,je,W1,dU,ed,aF,bJ]
   all_goals(refine bk _ _ _ (.inl ⟨rfl,n,?_,ZV rfl,cF,pb⟩);simp only[go_sem])
  ·(repeat' first|simp only[Un,IK,go_sem,s1,s2,a8,cY,bC,bt,dE,aB,je,W1,dU,ed,aF,cI,dZ,hE,la,vi,ahm,bJ]|with_reducible first|refine aZ fun _=>?_|refine a1 ?_|fail)
   all_goals(refine bW _ _ ⟨_,gQ,n+tL,i2,rfl,?_,rfl,?_,by omega,atS⟩)
   all_goals(first|(simp only[go_sem,je];done)|(rw[← Int.add_assoc];exact db))
 ·rintro e ai Y R aB ⟨i,tL,n,rn,rfl,⟨s1,s2,a8,cY,bC,bt,dE⟩,rfl,aI,cF,mr⟩ bk
  rw[ic]at aB dE
  simp only[Un,IK,go_sem,s1,s2,a8,cY,bC,bt,dE,aB]
  all_goals(refine bk _ _ _ (.inr ⟨?_,rfl,rfl⟩);simp only[go_sem,s2])
 ·refine⟨_,tL,0,i,rfl,?_,rfl,by rw[Int.add_zero,← hi,← anG],by omega,by omega⟩
  simp only[go_sem]
 ·rintro x e ai (⟨rfl,n,fQ,hP,mO,vO⟩|⟨aJ,rfl,rfl⟩)
  ·simp only[MV,go_sem,fQ,lh]
   all_goals exact⟨n,rfl,.inr hP,mO,vO⟩
  ·simp only[MV,go_sem,aJ,lh]
   all_goals exact⟨cj,rfl,.inl rfl,by omega,by omega⟩
theorem agd(t dA vk:Int)(ax:0≤t∧t+dA≤1099511627776)(D4:1≤dA)(hw:∀ s,0≤s→s<dA→sF es ((t+s) % cj)=vk):∃ r,a0 Tryz.prog cX 62 [gW c es cj,I t]=some r∧∃ a b,r=.ch [I a,I b]∧(b≠0∨t+dA≤a):=by
 have bB:=up (YF c es cj h t ⟨ax.1,by omega⟩)
 have aO:=Qe c es cj h t ⟨ax.1,by omega⟩
 obtain⟨m,l,cg,c5,nR,oY,pL,sm⟩:=KV es cj h t ax.1
 have hm:=hw 0 (by omega) (by omega)
 rw[Int.add_zero,c5]at hm
 subst hm
 obtain⟨r,ed,n,rfl,aw,iV,tA⟩:=aze c es cj h t dA m ax (by omega) hw
 have K5:(es.map gq)[(ff es (t % cj)).1]? = some (gq (m,l)):=by rw[eE,cg];rfl
 have uV:IntKind.i64.wrap (t+n)=t+n:=wrap_i64 (by omega) (by omega)
 generalize (ff es (t % cj)).1=i at *
 generalize (ff es (t % cj)).2=tL at *
 have jy:e6 [ah.fn (Fn.func 99) [] [.ref 0 1 0 0]]=none:=(fun x=>x) rfl
 have jz:snap [a9.row 1 [.t (I m)] 1] ez 20 (ah.fn (Fn.func 99) [] [.ref 0 1 0 0])=some (.fn (.func 99) [] [.ip [I m]]):=(fun x=>x) rfl
 refine qX 10 1 aqK (bH rfl) ?_
 generalize aF:decide (n=cj)=d at *
 cases d
 ·(repeat' first|simp only[TW,go_sem,bB,aO,ed,K5,nR,aF,jy,jz,uV,lh,bJ]|with_reducible first|refine aZ fun _=>?_|refine a1 ?_|fail)
  all_goals exact⟨_,_,rfl,.inr (by have:=r1 aF;omega)⟩
 ·(repeat' first|simp only[TW,go_sem,bB,aO,ed,K5,nR,aF,jy,jz,lh,bJ]|with_reducible first|refine aZ fun _=>?_|refine a1 ?_|fail)
  all_goals exact⟨_,_,rfl,.inl (by decide)⟩
theorem ax2(t dA:Int)(ax:0≤t∧t+dA≤1099511627776)(D4:1≤dA)(hw:∀ s,0≤s→s<dA→sF es ((t+s) % cj)=128):a0 Tryz.prog cX 36 [gW c es cj,I t,I dA]=some (B true):=by
 have bB:=afZ c es cj h t ⟨ax.1,by omega⟩
 have hm:=hw 0 (by omega) (by omega)
 rw[Int.add_zero]at hm
 rw[hm]at bB
 obtain⟨r,aO,a,b,rfl,iT⟩:=agd c es cj h t dA 128 ax D4 hw
 have uV:IntKind.i64.wrap (t+dA)=t+dA:=wrap_i64 (by omega) (by omega)
 generalize aF:decide (b=0)=d
 refine cK 10 1 aqh (bH rfl) ?_
 cases d
 ·(repeat' first|simp only[Ty,go_sem,bB,aO,aF,uV]|with_reducible first|refine aZ fun _=>?_|refine a1 ?_|fail)
 ·have q:decide (t+dA≤a)=true:=bY (by have:=ka aF;omega)
  (repeat' first|simp only[Ty,go_sem,bB,aO,aF,uV,q]|with_reducible first|refine aZ fun _=>?_|refine a1 ?_|fail)
end
def iK(b:Bool):Int:=if b then 128 else 127
def xj(us:List Bool)(i:Nat):List Nat:=(List.range i).filter fun j=>decide (j=0∨us[j]? ≠ us[j-1]?)
structure ye(us:List Bool)(g:Int)(i:Nat)(es:List ib):Prop where
 s:eD es=i*g
 m:∀ x,0≤x→x<i*g→∃ b,us[(x / g).toNat]? = some b∧sF es x=iK b
 n:es.length=(xj us i).length
 e:∀ x∈es,(0≤x.1∧x.1≤255)∧1≤x.2∧x.2≤i*g
theorem akR:∀(a b:List ib) (x:Int),0≤x→x<eD a→ff (a++b) x=ff a x:=by
 intro a
 induction a with
 | nil=>intro b x bo h;simp only[eD]at h;omega
 | cons e a au =>
  intro b x bo h
  simp only[eD]at h
  simp only[dS,ff]
  by_cases aE:e.2≤x
  ·rw[a6 aE,a6 aE,au b (x-e.2) (by omega) (by omega)]
  ·rw[a2 aE,a2 aE]
theorem U0(a b:List ib)(x:Int)(bo:0≤x)(h:x<eD a):sF (a++b) x=sF a x:=by
 obtain⟨h0,ad,_⟩:=Qc a x bo h
 unfold sF
 rw[akR a b x bo h,fv (cD.1 ad).1]
theorem akS:∀(a b:List ib) (x:Int),(∀ e∈a,1≤e.2)→eD a≤x→ff (a++b) x=((ff b (x-eD a)).1+a.length,(ff b (x-eD a)).2):=by
 intro a
 induction a with
 | nil=>intro b x _ h;simp[eD]
 | cons e a au =>
  intro b x av h
  have ab:=yF a 0 fun x U=>av x (by simp[U])
  rw[l6]at ab
  simp only[eD]at h
  simp only[dS,ff,eD,jc]
  rw[a6 (by omega),au b (x-e.2) (fun x U=>av x (by simp[U])) (by omega),show x-e.2-eD a=x-(e.2+eD a) by omega]
  simp only[Prod.mk.injEq,AW]
  omega
theorem Nf(a:List ib)(m l x:Int)(av:∀ e∈a,1≤e.2)(bo:eD a≤x)(ad:x<eD a+l):sF (a++[(m,l)]) x=m:=by
 unfold sF
 rw[akS a _ x av bo]
 simp only[ff]
 rw[a2 (by omega)]
 simp
theorem XG(us:List Bool)(i:Nat):xj us (i+1)=xj us i++if i=0∨us[i]? ≠ us[i-1]? then[i]else[]:=by
 unfold xj
 rw[y4,J0]
 congr 1
 by_cases h:i=0∨us[i]? ≠ us[i-1]?
 ·rw[a6 h,F6,bY h];rfl
 ·rw[a2 h,F6,bA h];rfl
theorem XZ{g x:Int}{i:Nat}(ay:1≤g)(h:(i:Int)*g≤x)(ad:x<((i+1:Nat):Int)*g):(x / g).toNat=i:=by
 have:x / g=i:=by
  have aJ:x / g*g≤x:=Dc x (by omega)
  have bL:x<(x / g+1)*g:=FY x (by omega)
  have dC:(i:Int)<x / g+1:=WV (Int.lt_of_le_of_lt h bL) (by omega)
  have fQ:x / g<((i+1:Nat):Int):=WV (Int.lt_of_le_of_lt aJ ad) (by omega)
  omega
 rw[this];rfl
section
variable{us:List Bool}{g:Int}(ay:1≤g){i:Nat}
include ay
theorem ada{es:List ib}(h:ye us g i es){b:Bool}(ab:us[i]? = some b)(aF:i=0∨us[i]? ≠ us[i-1]?):ye us g (i+1) (es++[(iK b,g)]):=by
 obtain⟨ad,ag,aJ,bL⟩:=h
 have hi:((i+1:Nat):Int)*g=i*g+g:=by push_cast;rw[za,zb]
 refine⟨by rw[JB,ad,hi];simp[eD],fun x p6 dW=>?_,?_,fun x U=>?_⟩
 ·by_cases U:x<i*g
  ·obtain⟨bS,cJ,cU⟩:=ag x p6 U
   exact⟨bS,cJ,by rw[U0 es _ x p6 (by omega)];exact cU⟩
  ·refine⟨b,by rw[XZ ay (by omega) dW];exact ab,Nf es _ _ x (fun e he=>(bL e he).2.1) (by omega) (by omega)⟩
 ·rw[XG,a6 aF,gT,gT,aJ];rfl
 ·rcases hp.1 U with U|U
  ·have:=bL x U;omega
  ·simp only[kA]at U
   subst U
   have dC:=yF es 0 fun e he=>(bL e he).2.1
   rw[l6]at dC
   refine⟨by unfold iK;split<;>simp,by simp only;omega,by simp only;omega⟩
theorem atg{pre:List ib}{l:Int}{b:Bool}(h:ye us g i (pre++[(iK b,l)]))(ab:us[i]? = some b)(cS:us[i-1]? = some b)(kY:i≠0):ye us g (i+1) (pre++[(iK b,l+g)]):=by
 obtain⟨ad,ag,aJ,bL⟩:=h
 have hi:((i+1:Nat):Int)*g=i*g+g:=by push_cast;rw[za,zb]
 rw[JB]at ad
 simp only[eD]at ad
 have av:∀ e∈pre,1≤e.2:=fun e he=>(bL e (by simp[he])).2.1
 have dC:=yF pre 0 av
 rw[l6]at dC
 have fQ:=(bL (iK b,l) (by simp)).2.1
 simp only at fQ
 refine⟨by rw[JB,hi];simp only[eD];omega,fun x p6 dW=>?_,?_,fun x U=>?_⟩
 ·by_cases U:x<i*g
  ·obtain⟨bS,cJ,cU⟩:=ag x p6 U
   refine⟨bS,cJ,?_⟩
   rw[← cU]
   by_cases aai:x<eD pre
   ·rw[U0 _ _ x p6 aai,U0 _ _ x p6 aai]
   ·rw[Nf _ _ _ x av (by omega) (by omega),Nf _ _ _ x av (by omega) (by omega)]
  ·refine⟨b,by rw[XZ ay (by omega) dW];exact ab,Nf _ _ _ x av (by omega) (by rw[hi]at dW;omega)⟩
 ·rw[XG,a2 (by rw[ab,cS];simp[kY])]
  simpa using aJ
 ·rcases hp.1 U with U|U
  ·have:=bL x (by simp[U]);omega
  ·simp only[kA]at U
   subst U
   have:=bL (iK b,l) (by simp)
   simp only at this ⊢
   omega
omit ay in
theorem ath:ye us g 0 []:=⟨by simp[eD],fun x a b=>by simp at b;omega,rfl,fun x U=>by simp at U⟩
end
abbrev gi(n:Int):T:=.aA (.int .u8 n)
def FH(l:List Int):Prop:=(∀ x∈l,0≤x∧x<256)∧l.length<9223372036854775808
def bq(l:List Int)(i:Nat):Int:=l[i]?.getD 0
theorem rG{l:List Int}(h:FH l)(i:Nat):0≤bq l i∧bq l i<256:=by
 unfold bq
 cases aE:l[i]? with
 | none=>simp
 | some x=>exact h.1 x (gp aE)
theorem Cq(c:Bool)(l:List Int)(i:Nat)(h:FH l):a0 Tryz.prog pol 18 [.aP c 1 (l.map gi),I (i:Nat)]=some (I (bq l i)):=by
 refine cK 1 1 apP (bH rfl) ?_
 by_cases hi:i<l.length
 ·have d1:decide ((i:Int)<(l.length:Nat))=true:=bY (by omega)
  have ay:(l.map gi)[i]? = some (gi (bq l i)):=by simp[bq,hi]
  have ab:=rG h i
  have v1:IntKind.i64.wrap (bq l i)=bq l i:=wrap_i64 (by omega) (by omega)
  simp only[S4,go_sem,d1,ay,v1]
 ·have d1:decide ((i:Int)<(l.length:Nat))=false:=bA (by omega)
  have av:bq l i=0:=by simp[bq,hi]
  rw[av]
  simp only[S4,go_sem,d1]
theorem aeg(c1 c2:Bool)(t:bR)(n:Int):a0 Tryz.prog pol 63 [fY c1 c2 t,I n]=some (B (decide (tN t n))):=by
 refine cK 1 1 aqL (bH rfl) ?_
 by_cases h:0≤n
 ·have e7:decide (0≤n)=true:=bY h
  have aT:decide (0≤n∧n<t.nodes)=decide (n<t.nodes):=by simp[h]
  rw[aT]
  simp only[TX,go_sem,e7]
 ·have e7:decide (0≤n)=false:=bA h
  rw[bA (fun k=>h k.1)]
  simp only[TX,go_sem,e7]
theorem acN(l:dK)(a b:Int):a0 Tryz.prog pol 38 [nm l,I a,I b]=some (B (decide (l.a=a∧l.b=b∨l.a=b∧l.b=a))):=by
 refine cK 1 1 aqj (bH rfl) ?_
 by_cases ad:l.a=a
 ·have d1:=bY ad
  by_cases ag:l.b=b
  ·have d2:=bY ag
   rw[bY (show l.a=a∧l.b=b∨l.a=b∧l.b=a from .inl ⟨ad,ag⟩)]
   (repeat' first|simp only[Ew,go_sem,d1,d2]|with_reducible first|refine aZ fun _=>?_|refine a1 ?_|fail)
  ·have d2:=bA ag
   have e:decide (l.a=a∧l.b=b∨l.a=b∧l.b=a)=decide (l.a=b∧l.b=a):=by simp[ag]
   rw[e]
   by_cases aJ:l.a=b
   ·have d3:=bY aJ
    have e:decide (l.a=b∧l.b=a)=decide (l.b=a):=by simp[aJ]
    rw[e]
    (repeat' first|simp only[Ew,go_sem,d1,d2,d3]|with_reducible first|refine aZ fun _=>?_|refine a1 ?_|fail)
   ·have d3:=bA aJ
    rw[bA (fun k=>aJ k.1)]
    (repeat' first|simp only[Ew,go_sem,d1,d2,d3]|with_reducible first|refine aZ fun _=>?_|refine a1 ?_|fail)
 ·have d1:=bA ad
  have e:decide (l.a=a∧l.b=b∨l.a=b∧l.b=a)=decide (l.a=b∧l.b=a):=by simp[ad]
  rw[e]
  by_cases aJ:l.a=b
  ·have d3:=bY aJ
   have e:decide (l.a=b∧l.b=a)=decide (l.b=a):=by simp[aJ]
   rw[e]
   (repeat' first|simp only[Ew,go_sem,d1,d3]|with_reducible first|refine aZ fun _=>?_|refine a1 ?_|fail)
  ·have d3:=bA aJ
   rw[bA (fun k=>aJ k.1)]
   (repeat' first|simp only[Ew,go_sem,d1,d3]|with_reducible first|refine aZ fun _=>?_|refine a1 ?_|fail)
def sD(t:bR)(l:dK):Bool:=pV t l && (Cd t l && yb l)
theorem ac4(c1 c2:Bool)(t:bR)(l:dK)(J:(t.kM.length:Int)=t.nodes):a0 Tryz.prog pol 37 [fY c1 c2 t,nm l]=some (B (sD t l)):=by
 have bB:=aeg c1 c2 t l.a
 have aO:=aeg c1 c2 t l.b
 refine cK 1 1 aqi (bH rfl) ?_
 unfold sD
 by_cases ad:tN t l.a
 ·have aT:=bY ad
  by_cases ag:tN t l.b
  ·have aW:=bY ag
   by_cases aJ:l.a=l.b
   ·have d3:=bY aJ
    have:pV t l=false:=by simp[pV,aJ]
    rw[this]
    (repeat' first|simp only[B1,go_sem,bB,aO,aT,aW,d3]|with_reducible first|refine aZ fun _=>?_|refine a1 ?_|fail)
   ·have d3:=bA aJ
    have fA:pV t l=true:=by unfold pV;exact bY ⟨ad,ag,aJ⟩
    obtain⟨cg,a3⟩:=N1 t J ad
    obtain⟨c5,a7⟩:=N1 t J ag
    rw[fA]
    unfold Cd
    generalize h9 t l.a.toNat=axP at *
    generalize h9 t l.b.toNat=axQ at *
    have bL:yb l=(decide (1≤l.aK) && (decide (l.aK≤1000) && (decide (0≤l.kE) && decide (l.kE≤10000)))):=by
     unfold yb
     rw[Db]
     simp only[ho,fe,Gj]
    rw[bL]
    cases axP with
    | true =>
     cases axQ with
     | true=>(repeat' first|simp only[B1,go_sem,bB,aO,aT,aW,d3,cg,c5,a3,a7]|with_reducible first|refine aZ fun _=>?_|refine a1 ?_|fail)
     | false =>
      cases cP:decide (1≤l.aK)<;>cases dc:decide (l.aK≤1000)<;>cases fi:decide (0≤l.kE)<;>cases sK:decide (l.kE≤10000)<;>(repeat' first|simp only[B1,go_sem,bB,aO,aT,aW,d3,cg,c5,a3,a7,cP,dc,fi,sK]|with_reducible first|refine aZ fun _=>?_|refine a1 ?_|fail)
    | false =>
     cases cP:decide (1≤l.aK)<;>cases dc:decide (l.aK≤1000)<;>cases fi:decide (0≤l.kE)<;>cases sK:decide (l.kE≤10000)<;>(repeat' first|simp only[B1,go_sem,bB,aO,aT,aW,d3,cg,c5,a3,a7,cP,dc,fi,sK]|with_reducible first|refine aZ fun _=>?_|refine a1 ?_|fail)
  ·have aW:=bA ag
   have:pV t l=false:=by unfold pV;exact bA (fun h=>ag h.2.1)
   rw[this]
   (repeat' first|simp only[B1,go_sem,bB,aO,aT,aW]|with_reducible first|refine aZ fun _=>?_|refine a1 ?_|fail)
 ·have aT:=bA ad
  have:pV t l=false:=by unfold pV;exact bA (fun h=>ad h.1)
  rw[this]
  (repeat' first|simp only[B1,go_sem,bB,aO,aT]|with_reducible first|refine aZ fun _=>?_|refine a1 ?_|fail)
structure afL where
 z:Bool
 c1:Bool
 c2:Bool
 dh:Bool
 b:mC
structure afR where
 st:Bool
 aCK:Bool
 fW:Bool
 lM:Bool
 gB:Bool
structure FU where
 t:bR
 adW:List Int
 down:List Bool
 gB:List afL
def avL(w:FU)(n:Nat):Int:=w.adW[n]?.getD 0
def awc(t:bR)(l:List Int):Bool:=decide ((l.length:Int)=t.nodes) && l.all (fun p=>decide (0≤p∧p≤15))
def arF(t:bR)(p:Nat):Bool:=!h9 t (Az t p).toNat
def ae5(t:bR)(n:Int):List Nat:=(yq t n).filter (arF t)
def tR(t:bR)(p:Nat):Int:=(gw t (p / 2)).aK
def ajx(t:bR)(n:Int):List Int:=(ae5 t n).map (tR t)
theorem auu{b:mC}(h:okB b=true):Ja b:=by
 rw[okB,fe,fe]at h
 exact ka h.1.1
theorem aut{b:mC}(h:okB b=true){i:Nat}(hi:i<b.u5.length):Ve b i=true:=by
 rw[okB,fe,jY]at h
 exact h.2 i (by simpa using hi)
section
variable(c1 c2 dh:Bool)(b:mC)
def Je(b:mC)(aF:List p7):mC:=⟨b.p,b.n,b.u5,b.Bb,aF⟩
end
section
variable(f:afR)(w:FU)(n:Nat)(h:g0 w.t=true)(al:awc w.t w.adW=true)(aF:w.down.length=w.t.cd.length)(aw:(n:Int)<w.t.nodes)(ab:n<w.gB.length)
include h al aF aw ab
end
theorem axj{m:Nat}{x:a9}{l:aj}:(List.replicate m a9.gone++x::l)[m]? = some x:=by rw[g5 (by simp)];simp
theorem NC{m j:Nat}{l:aj}:(List.replicate m a9.gone++l)[m+j]? = l[j]?:=by rw[g5 (by simp)];simp
theorem axk{m:Nat}{x y:a9}{l:aj}:List.set (List.replicate m a9.gone++x::l) m y=List.replicate m a9.gone++y::l:=by rw[uz];simp
theorem ND{m j:Nat}{y:a9}{l:aj}:List.set (List.replicate m a9.gone++l) (m+j) y=List.replicate m a9.gone++l.set j y:=by
 rw[uz,a2 (by simp)];simp
theorem axi{m:Nat}{l:aj}:(List.replicate m a9.gone++l).drop m=l:=by simp
theorem axl{m j:Nat}{l:aj}:(List.replicate m a9.gone++l).take (m+j)=List.replicate m a9.gone++l.take j:=by
 rw[y3];simp
def Pq(m:Nat):Option aj→Option aj
 | some l=>some (List.replicate m .gone++l)
 | none=>none
theorem Dk{m:Nat}{l:aj}:Pq m (some l)=some (List.replicate m .gone++l):=rfl
theorem Fi{m:Nat}{U:aj}{p:Nat→Bool}{l:aj}:b5 (dk U p) (List.replicate m .gone++l)=Pq m (b5 (dk U p) l):=by
 induction m with
 | zero=>simp only[Gd,ea];cases b5 (dk U p) l<;>rfl
 | succ m au =>
  rw[pB,dS]
  simp only[b5,au]
  cases b5 (dk U p) l<;>simp[Pq,dk,pB]
theorem aif{o q i k:Nat}{h:aj}:BS false (.ref o q i k) h=some (.val (.ref h.length 1 0 0) (h++[.row 1 [.ref o q i k] 0])):=(fun x=>x) rfl
theorem aic{cs:List ah}{h:aj}:BS false (.agg cs) h=if fX cs && !cs.isEmpty then some (.val (.ref h.length 1 0 0) (h++[.row cs.length [.agg cs] 0]))else none:=(fun x=>x) rfl
attribute [go_sem] aif aic agP
def ay0{df:Type}(t:bR)(ee:df→Nat→df)(s:df)(n:Nat):df:=if h9 t n=true then s else ee s n
section
variable{df:Type}(av:df→aj)(N:Nat)(bG:∀ s,(av s).length=N)(ee:df→Nat→df)(bn aR o:Nat)(Iv:Nat→df→Prop)(w:FU)
 (Bw:∀ n s,n<w.gB.length→Iv n s→Iv (n+1) (ay0 w.t ee s n))
 (fm:∀(s:df) (h:aj) (q:Nat),N≤q→b5 (dk h (bV q)) (av s)=some (av s)) (qm:o<N)
include bG Bw fm qm
end
def UU(a b c d:Int):Prop:=a<c∨a=c∧b<d
instance(a b c d:Int):Decidable (UU a b c d):=inferInstanceAs (Decidable (_∨_))
structure WM where
 aDb:Int
 aDa:Int
 cost:Int
 via:Int
 aBw:Int
abbrev axp(h:p7):T:=.agg [I h.a,I h.b,I h.c,I h.d,I h.e,I h.f]
def adD(b:mC)(i:Nat):p7:=⟨(o5 b i).is,(o5 b i).a,(o5 b i).b,(o5 b i).c+PU b i,(o5 b i).d,(o5 b i).e,(o5 b i).f,(o5 b i).g⟩
def leads(b:mC)(i:Nat):Bool:=(o5 b i).is && !decide (1048576<(adD b i).c) && decide (UU (o5 b i).a (o5 b i).b b.p b.n)
section
variable{df:Type}(av:df→aj)(N:Nat)(bG:∀ s,(av s).length=N)(ee:df→Nat→df)(bn aR o:Nat)(b:mC)
 (ar:∀(s:df) (i:Nat) (X:aj) (Q:ah→aj→Prop),i<b.heard.length→leads b i=true→(∀ cw,Q (.t (B true)) (av (ee s i)++X++cw))→ej (inl Tryz.prog pol (a0 Tryz.prog pol) aR bn (.bF o) [.t (I (i:Nat)),.t (axp (adD b i))] (av s++X)) Q)
 (fm:∀(s:df) (h:aj) (q:Nat),N≤q→b5 (dk h (bV q)) (av s)=some (av s)) (qm:o<N)
include bG ar fm qm
end
structure aBt where
 t:WM
 m:p7
 w:Nat
section
variable(c1 c2 dh:Bool)(b:mC)(t:WM)
end
theorem auv{b:mC}(h:okB b=true){aF:List p7}(ao:aF.length=b.heard.length)(U:∀ x∈aF,Nq x):okB (Je b aF)=true:=by
 have bo:=auu h
 have ad:=h
 rw[okB,fe,fe]at ad
 have aJ:=ka ad.1.2
 simp only[Ja]at bo
 rw[okB,fe,fe,jY]
 refine⟨⟨bY ?_,bY aJ⟩,?_⟩
 ·simp only[Ja,Je];omega
 ·intro i hi
  simp only[Je,vv]at hi
  have ag:=aut h hi
  simp only[Ve,ho]at ag ⊢
  refine⟨ag.1,ag.2.1,ag.2.2.1,?_⟩
  obtain⟨x,dM⟩:∃ x,aF[i]? = some x:=⟨aF[i]'(by omega),by simp⟩
  simp only[o5,Je,dM,na]
  exact U x (gp dM)
structure OL(w:FU)(n:Nat)(b:mC):Prop where
 ok:okB b=true
 ip:b.p=avL w n
 id:b.n=(n:Nat)
 u5:b.u5=(ae5 w.t n).map eI
 Bb:b.Bb=ajx w.t n
theorem OL.put{w:FU}{n:Nat}{b:mC}(h:OL w n b){aF:List p7}(ao:aF.length=b.heard.length)(U:∀ x∈aF,Nq x):OL w n (Je b aF):=⟨auv h.ok ao U,h.ip,h.id,h.u5,h.Bb⟩
theorem EU{t:bR}{p:Nat}(av:p<2*t.cd.length):(t.cd.map dH)[p / 2]? = some (nm (gw t (p / 2))):=by
 have hi:p / 2<t.cd.length:=by omega
 simp[gw,hi,dH]
theorem vP{p L:Nat}(av:p<2*L)(eL:L≤1000):IntKind.i64.wrap (Int.tdiv ((p:Nat):Int) 2)=((p / 2:Nat):Int):=by rw[azp];exact wrap_i64 (by omega) (by omega)
theorem E5(c1 c2:Bool)(t:bR)(p:Nat)(av:p<2*t.cd.length)(eL:t.cd.length≤1000):a0 Tryz.prog pol 40 [fY c1 c2 t,I (p:Nat)]=some (I (sg t p)):=by
 have m:=V6 p
 have v:=vP av eL
 have g:=EU av
 rw[sg]
 generalize gw t (p / 2)=l at *
 refine cK 1 1 aql (bH rfl) ?_
 by_cases h:p % 2=0
 ·rw[a6 h]
  have d:decide (((p % 2:Nat):Int)=1)=false:=bA (by omega)
  (repeat' first|simp only[Tz,go_sem,m,v,g,d]|with_reducible first|refine aZ fun _=>?_|refine a1 ?_|fail)
 ·rw[a2 h]
  have d:decide (((p % 2:Nat):Int)=1)=true:=bY (by omega)
  (repeat' first|simp only[Tz,go_sem,m,v,g,d]|with_reducible first|refine aZ fun _=>?_|refine a1 ?_|fail)
theorem Ao(c1 c2:Bool)(t:bR)(p:Nat)(av:p<2*t.cd.length)(eL:t.cd.length≤1000):a0 Tryz.prog pol 41 [fY c1 c2 t,I (p:Nat)]=some (I (Az t p)):=by
 have m:=V6 p
 have v:=vP av eL
 have g:=EU av
 rw[Az]
 generalize gw t (p / 2)=l at *
 refine cK 1 1 aqm (bH rfl) ?_
 by_cases h:p % 2=0
 ·rw[a6 h]
  have d:decide (((p % 2:Nat):Int)=1)=false:=bA (by omega)
  (repeat' first|simp only[TA,go_sem,m,v,g,d]|with_reducible first|refine aZ fun _=>?_|refine a1 ?_|fail)
 ·rw[a2 h]
  have d:decide (((p % 2:Nat):Int)=1)=true:=bY (by omega)
  (repeat' first|simp only[TA,go_sem,m,v,g,d]|with_reducible first|refine aZ fun _=>?_|refine a1 ?_|fail)
def ES(q:Nat→Bool)(o:List Nat)(p:Nat):List Nat:=if q p=true then o++[p]else o
theorem asE(q:Nat→Bool):∀(l:List Nat) (o:List Nat),l.foldl (ES q) o=o++l.filter q:=by
 intro l
 induction l with
 | nil=>intro o;simp
 | cons p l au =>
  intro o
  rw[p8,au,F6]
  by_cases h:q p=true
  ·simp[ES,h]
  ·simp[ES,h]
theorem ak7{df:Type}{f:df→Nat→df}:∀(n i:Nat) (s:df),gJ (ρ:=df) (fun i (_:Unit) s=>dQ.go (f s i)) id i (List.replicate n ()) s=(List.range' i n).foldl f s:=by
 intro n
 induction n with
 | zero=>intro i s;rfl
 | succ n au=>intro i s;rw[pB,ng (s':=f s i) rfl,au,vA,p8]
theorem av5(c1 c2:Bool)(t:bR)(n:Nat)(eL:t.cd.length≤1000):a0 Tryz.prog pol 100 [fY c1 c2 t,I (n:Nat)]=some (.aP false 1 (((yq t n).map eI).map I)):=by
 have v0:IntKind.i64.wrap (2*(t.cd.length:Nat))=((2*t.cd.length:Nat):Int):=by rw[wrap_i64 (by omega) (by omega)];omega
 refine cK 3000 1 ao6 (bH rfl) ?_
 simp only[Su,go_sem]
 refine wj (2*t.cd.length) (step:=fun p (o:List Nat)=>.go (ES (fun p=>decide (sg t p=(n:Nat))) o p)) (fin:=id)
  (St:=fun p o e h=>(e 1=.t (I (n:Nat))∧e 2=.t (.ip (dO c1 c2 t))∧e 5=.ms 0 o.length 0 o.length 1 false∧e 6=.t (I (p:Nat)))∧o.length≤p∧h=[ev 1 I (o.map eI)])
  (Ex:=fun o x e h=>e 5=.ms 0 o.length 0 o.length 1 false∧x=.exit 0∧h=[ev 1 I (o.map eI)]) (s:=[]) (by omega) ?_ ?_ (by omega) ?_ ?_
 ·intro p o e h Y R av aB hw ⟨J,ao,aY⟩ an
  subst aY
  simp only[g6]at an
  have bB:=E5 c1 c2 t p av eL
  have fr:(o.length+1)*8≤eQ:=l9 (by omega) (by omega)
  have anH:(o.map eI).length=o.length:=bJ ..
  have anv:lY 1 o.length (some (ev 1 I (o.map eI))):=by have:=ph (k:=1) (enc:=I) (l:=o.map eI);rwa[anH]at this
  by_cases q:sg t p=(n:Nat)
  ·have d:decide (sg t p=(n:Nat))=true:=bY q
   simp only[ES,d,cQ]at an
   (repeat' first|simp only[Sv,H0,go_sem,J,aB,hw,v0,bB,d,fr,anv,pg,pj]|with_reducible first|refine aZ fun _=>?_|refine a1 ?_|fail)
   all_goals refine an _ _ ⟨?_,by simp;omega,?_⟩
   ·simp only[go_sem,J,hw,gT]
   ·simp[ev]
  ·have d:decide (sg t p=(n:Nat))=false:=bA q
   simp only[ES,d,fJ,et]at an
   simp only[Sv,H0,go_sem,J,aB,hw,v0,bB,d]
   all_goals(refine an _ _ ⟨?_,by omega,rfl⟩;simp only[go_sem,J,hw])
 ·intro o e h Y R aB ⟨J,ao,aY⟩ an
  subst aY
  simp only[Sv,H0,go_sem,J,aB,v0]
  all_goals(refine an _ _ _ ⟨?_,rfl,rfl⟩;simp only[go_sem,J,id])
 ·refine⟨?_,by simp,rfl⟩
  simp only[go_sem]
 ·intro x e h ⟨ad,ag,aJ⟩
  rw[ak7,asE,ea,← sZ,show List.filter (fun p=>decide (sg t p=(n:Nat))) (List.range (2*t.cd.length))=yq t n from rfl]at ad aJ
  generalize yq t n=o at *
  subst ag aJ
  simp only[Su,aei,go_sem,ad]
def oG(r:List Nat):List T:=(r.map eI).map I
theorem rI(r:List Nat):(oG r).length=r.length:=by simp[oG]
theorem pe{r:List Nat}{i p:Nat}(h:r[i]? = some p):(oG r)[i]? = some (I ((p:Nat):Int)):=by simp[oG,h,eI]
abbrev fO(f:Bool)(r:List Nat):T:=.aP f 1 (oG r)
def yr(t:bR)(r:List Nat):Prop:=∀ p∈r,p<2*t.cd.length
def lN(t:bR)(p:Nat):Nat:=(sg t p).toNat
def jT(t:bR)(p:Nat):Nat:=(Az t p).toNat
def vD(t:bR)(p:Nat):Int:=(gw t (p / 2)).kE
def ei(t:bR)(r:List Nat):List Nat:=lN t (r[0]?.getD 0)::r.map (jT t)
structure hS(t:bR)(r:List Nat):Prop where
 eh:1≤r.length
 cx:r.length≤8
 p:yr t r
 n:(ei t r).Nodup
 c:∀ i p q,r[i]? = some p→r[i+1]? = some q→jT t p=lN t q∧h9 t (jT t p)=false
section
variable{t:bR}(h:g0 t=true)
include h
theorem ac9{i:Nat}(hi:i<t.cd.length):sC t i (gw t i)=true:=by
 have bo:=h
 simp only[g0,fe]at bo
 exact aeL bo.2.1 hi
theorem mZ{p:Nat}(av:p<2*t.cd.length):sg t p=((lN t p:Nat):Int)∧Az t p=((jT t p:Nat):Int)∧lN t p<t.nodes.toNat∧jT t p<t.nodes.toNat∧lN t p≠jT t p:=by
 have ad:=ac9 h (i:=p / 2) (by omega)
 simp only[sC,pV,fe,ho]at ad
 obtain⟨⟨a,b,c⟩,_⟩:=ad
 unfold lN jT sg Az
 split<;>omega
theorem M9{p:Nat}(av:p<2*t.cd.length):(1≤tR t p∧tR t p≤1000)∧0≤vD t p∧vD t p≤10000:=by
 have ad:=ac9 h (i:=p / 2) (by omega)
 simp only[sC,yb,fe,ho]at ad
 exact ad.2.2.2
theorem Ax{n:Nat}(aw:n<t.nodes.toNat):(t.kM.map B)[n]? = some (B (h9 t n))∧n<t.kM.length:=by
 obtain⟨jy,jz,jA⟩:=mw h
 have J:n<t.kM.length:=by omega
 exact⟨by rw[eE,h9,fC J];rfl,J⟩
end
abbrev BI(t:bR)(p:Nat):T:=.agg [I (p:Nat),I (sg t p),I (Az t p)]
section
variable(av:Nat→aj)(N:Nat)(bG:∀ s,(av s).length=N)(bn aR o:Nat)(t:bR)(r:List Nat)
 (ar:∀(i p:Nat) (X:aj) (Q:ah→aj→Prop),r[i]? = some p→(∀ cw,Q (.t (B true)) (av (i+1)++X++cw))→ej (inl Tryz.prog pol (a0 Tryz.prog pol) aR bn (.bF o) [.t (I (i:Nat)),.t (BI t p)] (av i++X)) Q)
 (fm:∀(s:Nat) (h:aj) (q:Nat),N≤q→b5 (dk h (bV q)) (av s)=some (av s)) (qm:o<N)
include bG ar fm qm
theorem ZU(c1 c2 c:Bool)(al:yr t r)(ab:t.cd.length≤24)(ao:r.length≤8)(Q:ah→aj→Prop)(aw:100<aR)(bI:Q (.t (.ch [])) (av r.length)) :
  ej (inl Tryz.prog pol (a0 Tryz.prog pol) aR (bn+1) (.fn 129) [.bF o,.t (.ip [.aP c 1 (oG r)]),.t (.ip (dO c1 c2 t))] (av 0)) Q:=by
 have tk:∀(s:Nat) (x:a9) (Y:aj),(av s++(x::Y))[N]? = some x:=fun s x Y=>by rw[g5 (by rw[bG];omega),bG,nC];rfl
 have K6:∀(s:Nat) (x y:a9) (Y:aj),(av s++(x::y::Y))[N+1]? = some y:=fun s x y Y=>by rw[g5 (by rw[bG];omega),bG,show N+1-N=1 by omega];rfl
 have Au:∀(s:Nat) (x z:a9) (Y:aj),(av s++x::Y).set N z=av s++z::Y:=fun s x z Y=>by rw[uz,a2 (by rw[bG];omega),bG,nC];rfl
 have NT:∀(s:Nat) (x y z:a9) (Y:aj),(av s++x::y::Y).set (N+1) z=av s++x::z::Y:=fun s x y z Y=>by rw[uz,a2 (by rw[bG];omega),bG,show N+1-N=1 by omega];rfl
 have pL:∀(s:Nat) (Y:aj),(av s++Y).take N=av s:=fun s Y=>by rw[y3,bG,l8 (by rw[bG];omega)];simp
 have vM:∀(s:Nat) (U:aj),b5 (dk U (bV N)) (av s)=some (av s):=fun s U=>fm s U N (bP _)
 have hlen:∀(s:Nat) (Y:aj),(av s++Y).length=N+Y.length:=fun s Y=>by simp[bG]
 have f2:decide (N≤o)=false:=bA (by omega)
 have f4:∀ k,N<N+(k+1):=fun k=>by omega
 have cx:=rI r
 refine lp apF (bH rfl) ?_
 simp only[SU,go_sem,bG,cx]
 refine hA r (fun p=>I (eI p)) (St:=fun i e h=>(e 0=.bF o∧e 2=.t (.ip (dO c1 c2 t))∧e 8=.t (.aP c 1 (oG r))∧e 9=.t (I (r.length:Nat))∧e 10=.t (I (i:Nat)))∧h=av i)
  (Ex:=fun x e h=>x=.exit 0∧h=av r.length) (by omega) ?_ ?_ (by omega) ?_ ?_
 ·intro i p e h Y R hm hi U _ aB hw ⟨⟨bE,s2,dG,cM,cV⟩,aY⟩ bW bk
  subst aY
  have vV:=al p hm
  have gj:=pe U
  have wQ:=vP vV (show t.cd.length≤1000 by omega)
  have G2:=EU vV
  have iF:=V6 p
  have a3:decide (((p:Nat):Int)<0)=false:=bA (by omega)
  have dZ:IntKind.i64.wrap (2*((t.cd.length:Nat):Int))=((2*t.cd.length:Nat):Int):=by rw[wrap_i64 (by omega) (by omega)];omega
  have a7:decide (((2*t.cd.length:Nat):Int)≤((p:Nat):Int))=false:=bA (by omega)
  have m7:=ar i p [.row 4 [.t (nm (gw t (p / 2)))] 1,.row 3 [.t (BI t p)] 1]
  unfold BI sg Az at m7
  generalize gw t (p / 2)=l at *
  by_cases ag:p % 2=0
  ·have d:decide (((p % 2:Nat):Int)=1)=false:=bA (by omega)
   rw[a6 ag,a6 ag]at m7
   (repeat' first|simp only[Ic,BX,go_sem,bE,s2,dG,cM,cV,aB,hw,gj,cx,a3,dZ,a7,wQ,G2,iF,d,bG,hlen,tk,K6,Au,NT,fU,bJ]|with_reducible first|refine aZ fun _=>?_|refine a1 ?_|fail)
   with_reducible refine m7 _ U ?_
   intro cw
   (repeat' first|simp only[Ic,BX,go_sem,bE,s2,dG,cM,cV,hw,bG,hlen,fU,f4,pL,vM,f2,qd]|with_reducible first|refine aZ fun _=>?_|refine a1 ?_|fail)
   all_goals(refine bW _ _ ⟨?_,rfl⟩;simp only[go_sem,bE,s2,dG,cM,cV,hw,f2,qd])
  ·have d:decide (((p % 2:Nat):Int)=1)=true:=bY (by omega)
   rw[a2 ag,a2 ag]at m7
   (repeat' first|simp only[Ic,BX,go_sem,bE,s2,dG,cM,cV,aB,hw,gj,cx,a3,dZ,a7,wQ,G2,iF,d,bG,hlen,tk,K6,Au,NT,fU,bJ]|with_reducible first|refine aZ fun _=>?_|refine a1 ?_|fail)
   with_reducible refine m7 _ U ?_
   intro cw
   (repeat' first|simp only[Ic,BX,go_sem,bE,s2,dG,cM,cV,hw,bG,hlen,fU,f4,pL,vM,f2,qd]|with_reducible first|refine aZ fun _=>?_|refine a1 ?_|fail)
   all_goals(refine bW _ _ ⟨?_,rfl⟩;simp only[go_sem,bE,s2,dG,cM,cV,hw,f2,qd])
 ·intro e h Y R aB ⟨⟨bE,s2,dG,cM,cV⟩,aY⟩ bk
  subst aY
  simp only[Ic,BX,go_sem,bE,s2,dG,cM,cV,aB]
  all_goals exact bk _ _ _ ⟨rfl,rfl⟩
 ·refine⟨?_,rfl⟩
  simp only[go_sem,cx]
 ·rintro x e h ⟨rfl,rfl⟩
  simp only[SU,go_sem]
  exact bI
end
def qM(L:List Nat):List Bool:=(List.range 12).map fun x=>decide (x∈L)
theorem yC(L:List Nat):(qM L).length=12:=by simp[qM]
theorem NW(L:List Nat){x:Nat}(h:x<12):(qM L)[x]? = some (decide (x∈L)):=by simp[qM,h]
theorem VR(L:List Nat){y:Nat}(h:y<12):(qM L).set y true=qM (L++[y]):=by
 apply y1
 intro x
 by_cases U:x<12
 ·rw[NW _ U]
  by_cases ar:y=x
  ·subst ar;rw[l7 (by rw[yC];exact h)];simp
  ·rw[iv ar,NW _ U];simp[Ne.symm ar]
 ·rw[kb (by rw[uA,yC];omega),kb (by rw[yC];omega)]
theorem VV{C:List Bool}{j:Nat}(aU:j<C.length):ku ((C.map B).map ah.t) j [.t (B true)]=((C.set j true).map B).map ah.t:=by
 rw[ku,WN,a6 aU]
 simp
theorem X1{C:List Bool}{j:Nat}{b:Bool}(aU:C[j]? = some b):List.drop j ((C.map B).map ah.t)=.t (B b)::((C.drop (j+1)).map B).map ah.t:=by
 obtain⟨ad,ag⟩:=cD.1 aU
 rw[← F9,← F9,drop_cons ad,ag];rfl
def n7(t:bR)(r:List Nat):Nat→List Nat
 | 0=>[]
 | i+1=>(ei t r).take (i+2)
def Dl(t:bR)(r:List Nat):Nat→Nat
 | 0=>0
 | i+1=>jT t (r[i]?.getD 0)
theorem Nk{t:bR}{r:List Nat}{i p:Nat}(h:r[i]? = some p):(ei t r)[i+1]? = some (jT t p):=by simp[ei,h]
theorem VP{t:bR}{r:List Nat}{i p:Nat}(h:r[i]? = some p):n7 t r (i+1)=(if i=0 then[lN t p]else n7 t r i)++[jT t p]:=by
 cases i with
 | zero=>simp[n7,ei,h,qV,r3]
 | succ i=>rw[a2 (by omega),n7,n7,r3,Nk h];rfl
theorem axW{t:bR}{r:List Nat}(aw:(ei t r).Nodup){i p:Nat}(h:r[i]? = some p):jT t p ∉ (if i=0 then[lN t p]else n7 t r i):=by
 have ad:(ei t r).take (i+2)=(if i=0 then[lN t p]else n7 t r i)++[jT t p]:=VP h
 have ag:((ei t r).take (i+2)).Nodup:=aw.sublist (List.take_sublist _ _)
 rw[ad,Pa]at ag
 intro hm
 exact ag.2.2 _ hm _ (by simp) rfl
section
variable(c1 c2:Bool)(t:bR)(h:g0 t=true)(r:List Nat)(al:hS t r)
noncomputable abbrev I1(E:aM):a9:=.loop 113 (rD 55 (eR (some [2,5,6,7]) E)) [21,22] (hc Tryz.prog 113 0).1 (hc Tryz.prog 113 0).2 false none
noncomputable def xU(t:bR)(r:List Nat)(E:aM)(i:Nat):aj:=[.row 12 [.t (.agg ((qM (n7 t r i)).map B))] (min i 1),.row 1 [.t (I ((Dl t r i:Nat):Int))] 1,.row 1 [.t (I (i:Nat))] 1,I1 E]
include h al
theorem aAB(E:aM)(dm:E 2=.t (.ip (dO c1 c2 t))∧E 5=.ref 0 1 0 0∧E 6=.ref 1 1 0 0∧E 7=.ref 2 1 0 0)(bn aR i p:Nat)(U:r[i]? = some p)(X:aj)(Q:ah→aj→Prop)(bI:∀ cw,Q (.t (B true)) (xU t r E (i+1)++X++cw)) :
  ej (inl Tryz.prog pol (a0 Tryz.prog pol) aR (bn+1) (.bF 3) [.t (I (i:Nat)),.t (BI t p)] (xU t r E i++X)) Q:=by
 obtain⟨jy,jz,jA⟩:=mw h
 have vV:=al.p p (gp U)
 obtain⟨mr,pb,yf,adt,lV⟩:=mZ h vV
 have aS:=VP (t:=t) U
 have fg:=axW al.n U
 have iU:Dl t r (i+1)=jT t p:=by simp[Dl,U]
 have qj:i<r.length:=(cD.1 U).1
 have fA:=al.cx
 have dY:i≠0→Dl t r i=lN t p∧h9 t (Dl t r i)=false:=fun bo=>by
  obtain⟨j,rfl⟩:∃ j,i=j+1:=⟨i-1,by omega⟩
  have aU:r[j]? = some r[j]:=fC (by omega)
  have:=al.c j r[j] p aU U
  simp only[Dl,aU,na]
  exact this
 have LM:IntKind.i64.wrap ((i:Nat)+1:Int)=((i+1:Nat):Int):=wrap_i64 (by omega) (by omega)
 have DK:∀(x y:a9),(X++[x]++[y])[X.length+1]? = some y:=fun x y=>by simp
 have q4:∀(x:a9),(X++[x])[X.length]? = some x:=fun x=>by simp
 have aes:∀(x z:a9),(X++[x]).set X.length z=X++[z]:=fun x z=>by simp
 unfold BI
 rw[mr,pb]
 unfold xU at bI ⊢
 rw[aS,iU,Pg (by omega:1≤i+1)]at bI
 have q:decide (((i:Nat):Int)=0)=decide (i=0):=y2.2 ⟨fun h=>by omega,fun h=>by omega⟩
 generalize lN t p=f at *
 generalize jT t p=w at *
 refine Cm (E:=eR (some [2,5,6,7]) E) rfl rfl rfl apl apm ?_
 simp only[dS,ea]at bI ⊢
 have Lp:f<12:=by omega
 have zR:w<12:=by omega
 have Zr:f+1≤12:=by omega
 have aad:w+1≤12:=by omega
 by_cases kY:i=0
 ·rw[a6 kY]at aS fg bI
  rw[bY kY]at q
  have e7:n7 t r i=[]:=by rw[kY];rfl
  rw[e7]
  have s1:=VV (C:=qM []) (j:=f) (by rw[yC];exact Lp)
  rw[VR [] Lp]at s1
  rw[ea]at s1
  have cg:=X1 (C:=qM [f]) (j:=w) (by rw[NW _ zR,bA fg])
  have s2:=VV (C:=qM [f]) (j:=w) (by rw[yC];exact zR)
  rw[VR [f] zR]at s2
  have rE:min i 1=0:=by omega
  have OB:=yC []
  have ue:=yC [f]
  generalize qM []=kN at *
  generalize qM [f]=af5 at *
  (repeat' first|simp only[SC,SD,go_sem,dm,q,mM,nu,DK,q4,aes,Lp,zR,Zr,aad,s1,s2,cg,rE,OB,ue,LM,w9]|with_reducible first|refine aZ fun _=>?_|refine a1 ?_|fail)
  all_goals(have aE:=bI [.row 3 [.t (.agg [I (p:Nat),I (f:Nat),I (w:Nat)])] 1];simpa only[fU,dS,ea]using aE)
 ·rw[a2 kY]at aS fg bI
  rw[bA kY]at q
  obtain⟨ae,ab⟩:=dY kY
  rw[ae]at ab
  rw[ae]
  obtain⟨si,HE⟩:=Ax h yf
  rw[ab]at si
  have a7:decide (((f:Nat):Int)=((f:Nat):Int))=true:=bY rfl
  have rE:min i 1=1:=by omega
  generalize n7 t r i=S at *
  have cg:=X1 (C:=qM S) (j:=w) (by rw[NW _ zR,bA fg])
  have s2:=VV (C:=qM S) (j:=w) (by rw[yC];exact zR)
  rw[VR S zR]at s2
  have ue:=yC S
  generalize qM S=af5 at *
  (repeat' first|simp only[SC,SD,go_sem,dm,q,a7,mM,nu,DK,q4,aes,Lp,zR,Zr,aad,s2,cg,rE,ue,LM,si,HE,w9,bJ]|with_reducible first|refine aZ fun _=>?_|refine a1 ?_|fail)
  all_goals(have aE:=bI [.row 3 [.t (.agg [I (p:Nat),I (f:Nat),I (w:Nat)])] 1];simpa only[fU,dS,ea]using aE)
omit h al in
theorem an6(E:aM)(dm:E 2=.t (.ip (dO c1 c2 t))∧E 5=.ref 0 1 0 0∧E 6=.ref 1 1 0 0∧E 7=.ref 2 1 0 0)(i:Nat)(aY:aj)(q:Nat)(aE:4≤q):b5 (dk aY (bV q)) (xU t r E i)=some (xU t r E i):=by
 have hC:decide (q≤0)=false:=bA (by omega)
 have a3:decide (q≤1)=false:=bA (by omega)
 have a7:decide (q≤2)=false:=bA (by omega)
 have fD:dk aY (bV q) (I1 E)=some (I1 E):=by
  rw[xo]
  simp only[go_sem,dm,hC,a3,a7]
 simp only[xU,b5,fD]
 simp[dk,dw,cL]
omit h al in
theorem ZT(c:Bool):a0 Tryz.prog pol 123 [fY c1 c2 t,.aP c 1 (oG r)]=some (.fn (.func 129) [] [.ip [.aP c 1 (oG r)],.ip (dO c1 c2 t)]):=by
 refine cK 1 1 apx (bH rfl) ?_
 simp only[aaU,go_sem]
theorem afj(c:Bool):a0 Tryz.prog pol 113 [fY c1 c2 t,.aP c 1 (oG r)]=some (B true):=by
 obtain⟨jy,jz,jA⟩:=mw h
 have cx:=rI r
 have kl:=al.eh
 have fA:=al.cx
 have d1:decide (((r.length:Nat):Int)<1)=false:=bA (by omega)
 have d2:decide ((8:Int)<((r.length:Nat):Int))=false:=bA (by omega)
 have x9:=ZT c1 c2 t r c
 refine cK 200 3 apk (bH rfl) ?_
 (repeat' first|simp only[SB,go_sem,cx,d1,d2,x9]|with_reducible first|refine aZ fun _=>?_|refine a1 ?_|fail)
 have key:∀ E:aM,([.row 12 [.t (.agg [B false,B false,B false,B false,B false,B false,B false,B false,B false,B false,B false,B false])] 0,.row 1 [.t (I 0)] 1,.row 1 [.t (I 0)] 1,I1 E]:aj)=xU t r E 0:=fun E=>rfl
 rw[key]
 have xu:100<200:=by omega
 have QH:3<4:=by omega
 with_reducible refine ZU (fun i=>xU t r _ i) 4 (fun o=>rfl) 2 200 3 t r ?_ ?_ QH c1 c2 c al.p jA fA _ xu ?_
 ·intro i p X Q U bI
  exact aAB c1 c2 t h r al _ (by simp only[go_sem]) 1 200 i p U X Q bI
 ·intro i h q aE
  exact an6 c1 c2 t r _ (by simp only[go_sem]) i h q aE
 ·have fR:min r.length 1=1:=by omega
  have aT:decide (((r.length:Nat):Int)=((r.length:Nat):Int))=true:=bY rfl
  simp only[xU,I1,fR]
  simp only[SB,go_sem,aT,cx]
noncomputable abbrev I0(E:aM):a9:=.loop 124 (rD 30 (eR (some [5]) E)) [15,16] (hc Tryz.prog 124 0).1 (hc Tryz.prog 124 0).2 false none
noncomputable def xS(t:bR)(r:List Nat)(E:aM)(i:Nat):aj:=[ev 1 I ((n7 t r i).map eI),.row 1 [] 0,.row 1 [.ms 0 (n7 t r i).length 0 (n7 t r i).length 1 false] 1,I0 E]
theorem at8(E:aM)(dm:E 5=.ref 2 1 0 0)(bn aR i p:Nat)(U:r[i]? = some p)(X:aj)(Q:ah→aj→Prop)(bI:∀ cw,Q (.t (B true)) (xS t r E (i+1)++X++cw)) :
  ej (inl Tryz.prog pol (a0 Tryz.prog pol) aR (bn+1) (.bF 3) [.t (I (i:Nat)),.t (BI t p)] (xS t r E i++X)) Q:=by
 have vV:=al.p p (gp U)
 obtain⟨mr,pb,yf,adt,lV⟩:=mZ h vV
 have aS:=VP (t:=t) U
 have qj:i<r.length:=(cD.1 U).1
 have fA:=al.cx
 have q:decide (((i:Nat):Int)=0)=decide (i=0):=y2.2 ⟨fun h=>by omega,fun h=>by omega⟩
 have HE:(n7 t r i).length≤20:=by
  cases i with
  | zero=>simp[n7]
  | succ i=>rw[n7];exact kP (List.length_take_le _ _) (by omega)
 unfold BI
 rw[mr,pb]
 unfold xS at bI ⊢
 rw[aS]at bI
 generalize lN t p=f at *
 generalize jT t p=w at *
 generalize cE:n7 t r i=S at *
 have fr:∀ k,k≤30→(k+1)*8≤eQ:=fun k an=>l9 (by omega) (by omega)
 refine Cm (E:=eR (some [5]) E) rfl rfl rfl apz apA ?_
 simp only[dS,ea]at bI ⊢
 by_cases kY:i=0
 ·rw[a6 kY]at aS bI
  rw[bY kY]at q
  have e7:S=[]:=by rw[← cE,kY];rfl
  subst e7
  have jP:lY 1 0 (some (ev 1 I ([]:List Int))):=ph
  have MX:lY 1 1 (some (ev 1 I [((f:Nat):Int)])):=ph
  have lQ:=fr 0 (by omega)
  have tC:=fr 1 (by omega)
  have cP:a9.row 1 ((([]:List Int).map I).map .t++[.t (I (f:Nat))]) 0=ev 1 I [((f:Nat):Int)]:=rfl
  simp only[SQ,SR,go_sem,dm,q,mM,nu,jP,MX,lQ,tC,pg,pj,cP,yx]
  all_goals(have aE:=bI [.row 3 [.t (.agg [I (p:Nat),I (f:Nat),I (w:Nat)])] 1];simp only[fU,dS,ea,gz,nB,ux,gT,jc,lF]at aE;exact aE)
 ·rw[a2 kY]at aS bI
  rw[bA kY]at q
  have jP:lY 1 S.length (some (ev 1 I (S.map eI))):=by have:=ph (k:=1) (enc:=I) (l:=S.map eI);rwa[bJ]at this
  have lQ:=fr S.length (by omega)
  simp only[SQ,SR,go_sem,dm,q,mM,nu,jP,lQ,pg,pj,yx]
  all_goals(have aE:=bI [.row 3 [.t (.agg [I (p:Nat),I (f:Nat),I (w:Nat)])] 1];simp only[fU,dS,ea,gz,nB,ux,gT,jc,lF]at aE;exact aE)
omit h al in
theorem an4(E:aM)(dm:E 5=.ref 2 1 0 0)(i:Nat)(aY:aj)(q:Nat)(aE:4≤q):b5 (dk aY (bV q)) (xS t r E i)=some (xS t r E i):=by
 have a7:decide (q≤2)=false:=bA (by omega)
 have a3:decide (q≤1)=false:=bA (by omega)
 have fD:dk aY (bV q) (I0 E)=some (I0 E):=by
  rw[xo]
  simp only[go_sem,dm,a7]
 simp only[xS,b5,fD,Bj]
 have hC:q≠0:=by omega
 simp[dk,dw,cL,bV,hC]
theorem U6(c:Bool):a0 Tryz.prog pol 124 [fY c1 c2 t,.aP c 1 (oG r)]=some (.aP false 1 (((ei t r).map eI).map I)):=by
 obtain⟨jy,jz,jA⟩:=mw h
 have cx:=rI r
 have kl:=al.eh
 have fA:=al.cx
 have cI:IntKind.i64.wrap ((r.length:Nat)+1:Int)=((r.length+1:Nat):Int):=wrap_i64 (by omega) (by omega)
 have x9:=ZT c1 c2 t r c
 refine cK 200 3 apy (bH rfl) ?_
 have k1:8*(r.length+1)≤eQ:=by rw[Aq];omega
 have aom:r.length≤9223372036854775806:=by omega
 simp only[SP,go_sem,cx,x9,cI,k1,aom]
 have key:∀ E:aM,([.row 1 [] 0,.row 1 [] 0,.row 1 [.ms 0 0 0 0 1 false] 1,I0 E]:aj)=xS t r E 0:=fun E=>rfl
 rw[key]
 have xu:100<200:=by omega
 have QH:3<4:=by omega
 with_reducible refine ZU (fun i=>xS t r _ i) 4 (fun o=>rfl) 2 200 3 t r ?_ ?_ QH c1 c2 c al.p jA fA _ xu ?_
 ·intro i p X Q U bI
  exact at8 t h r al _ (by simp only[go_sem]) 1 200 i p U X Q bI
 ·intro i h q aE
  exact an4 t r _ (by simp only[go_sem]) i h q aE
 ·have aT:n7 t r r.length=ei t r:=by
   obtain⟨k,an⟩:∃ k,r.length=k+1:=⟨r.length-1,by omega⟩
   rw[an,n7,l8]
   simp[ei];omega
  have jP:lY 1 (ei t r).length (some (ev 1 I ((ei t r).map eI))):=by have:=ph (k:=1) (enc:=I) (l:=(ei t r).map eI);rwa[bJ]at this
  simp only[xS,I0,aT]
  generalize ei t r=S at *
  simp only[SP,go_sem,jP,pg,pj,Bj]
end
theorem ajs(c:Bool)(l:List Int)(x:Int)(ao:l.length≤900):a0 Tryz.prog pol 125 [.aP c 1 (l.map I),I x]=some (B (decide (x∈l))):=by
 have bB:=arC c l x ao
 have d:decide (0≤qt x 0 l)=decide (x∈l):=by
  by_cases h:x∈l
  ·have:=aaq (i:=0) h
   rw[bY h,bY (by omega:0≤qt x 0 l)]
  ·rw[bA h,aar h];rfl
 refine cK 1 1 apB (bH rfl) ?_
 simp only[aaV,go_sem,bB,d]
structure Gr(t:bR)(a b:List Nat):Prop where
 s:∀ p∈a,∀ q∈b,p / 2≠q / 2
 c:∀ x∈((ei t a).take a.length).drop 1,x ∉ ei t b
 d:∀ x∈((ei t b).take b.length).drop 1,x ∉ ei t a
section
variable(c1 c2:Bool)(t:bR)(h:g0 t=true)(f:Bool)
include h
theorem aen(c:Bool)(r:List Nat)(al:hS t r):a0 Tryz.prog pol 122 [fY c1 c2 t,.aP c 1 (oG r)]=some (I 0):=by
 have bB:=Ky (c1:=c1) (c2:=c2) h
 have aO:=afj c1 c2 t h r al c
 refine cK 10 1 apw (bH rfl) ?_
 (repeat' first|simp only[aaT,go_sem,bB,aO]|with_reducible first|refine aZ fun _=>?_|refine a1 ?_|fail)
theorem af1(r:List Nat)(al:hS t r):a0 Tryz.prog pol 128 [fY c1 c2 t,.ip [fO f r]]=some (.ch [.aP false 1 (((ei t r).map eI).map I),I 0]):=by
 have aO:=U6 c1 c2 t h r al f
 refine cK 10 1 apE (bH rfl) ?_
 simp only[aaZ,go_sem,aO]
theorem aha(r:List Nat)(al:hS t r):a0 Tryz.prog pol 127 [fY c1 c2 t,fO f r,.fn (.func 128) [] [.ip [fO f r]]]=some (.ch [.aP false 1 (((ei t r).map eI).map I),I 0]):=by
 have bB:=aen c1 c2 t h f r al
 have aO:=af1 c1 c2 t h f r al
 refine cK 10 1 apD (bH rfl) ?_
 (repeat' first|simp only[aaY,go_sem,bB,aO]|with_reducible first|refine aZ fun _=>?_|refine a1 ?_|fail)
theorem af4(r:List Nat)(al:hS t r):a0 Tryz.prog pol 121 [fY c1 c2 t,fO f r]=some (.ch [.aP false 1 (((ei t r).map eI).map I),I 0]):=by
 have bB:=aha c1 c2 t h f r al
 refine cK 10 1 apv (bH rfl) ?_
 simp only[aaS,go_sem,bB]
omit h in
theorem yg(r:List Nat):(ei t r).length=r.length+1:=by simp[ei]
def pF(t:bR)(r:List Nat):Nat:=lN t (r[0]?.getD 0)
def nQ(t:bR)(r:List Nat):Nat:=jT t (r[r.length-1]?.getD 0)
theorem afQ(r:List Nat)(al:hS t r):a0 Tryz.prog pol 110 [fY c1 c2 t,fO f r]=some (.ch [I ((pF t r:Nat):Int),I ((nQ t r:Nat):Int),I 0]):=by
 have bB:=af4 c1 c2 t h f r al
 have ao:=yg t r
 have bo:=al.eh
 have ad:=al.cx
 have gV:(((ei t r).map eI).map I)[0]? = some (I ((pF t r:Nat):Int)):=rfl
 have cg:(((ei t r).map eI).map I)[r.length]? = some (I ((nQ t r:Nat):Int)):=by
  obtain⟨k,an⟩:∃ k,r.length=k+1:=⟨r.length-1,by omega⟩
  have U:r[k]? = some r[k]:=fC (by omega)
  have he:nQ t r=jT t r[k]:=by unfold nQ;rw[show r.length-1=k by omega,U];rfl
  rw[an,eE,eE,Nk U,he];rfl
 have w:IntKind.i64.wrap (((r.length+1:Nat):Int)-1)=((r.length:Nat):Int):=by rw[wrap_i64 (by omega) (by omega)];omega
 have gQ:(((ei t r).map eI).map I).length=r.length+1:=by simp[ao]
 generalize ((ei t r).map eI).map I=L at *
 have i0:0<r.length+1:=by omega
 have i1:r.length<r.length+1:=by omega
 refine cK 10 1 aph (bH rfl) ?_
 (repeat' first|simp only[aaC,go_sem,bB,gQ,gV,cg,w,i0,i1]|with_reducible first|refine aZ fun _=>?_|refine a1 ?_|fail)
theorem axo(r:List Nat)(al:hS t r)(a b:Nat)(ae:pF t r=a)(ab:nQ t r=b):a0 Tryz.prog pol 82 [fY c1 c2 t,fO f r,I (a:Nat),I (b:Nat)]=some (B true):=by
 have bB:=afQ c1 c2 t h f r al
 rw[ae,ab]at bB
 have a3:decide (((a:Nat):Int)=((a:Nat):Int))=true:=bY rfl
 have a7:decide (((b:Nat):Int)=((b:Nat):Int))=true:=bY rfl
 refine cK 10 1 aq4 (bH rfl) ?_
 (repeat' first|simp only[acs,go_sem,bB,a3,a7]|with_reducible first|refine aZ fun _=>?_|refine a1 ?_|fail)
omit h in
theorem ax7(a b:List Nat)(J:∀ p∈a,∀ q∈b,p / 2≠q / 2)(ae:∀ p∈a,p≤1000)(ab:∀ p∈b,p≤1000)(aCf:a.length≤8)(aCg:b.length≤8):a0 Tryz.prog pol 114 [fO f a,fO f b]=some (B false):=by
 have cx:=rI a
 have gQ:=rI b
 refine cK 100 1 apn (bH rfl) ?_
 simp only[SE,go_sem,cx]
 refine hA a (fun p=>I (eI p)) (St:=fun i e h=>(e 1=.t (fO f b)∧e 9=.t (fO f a)∧e 10=.t (I (a.length:Nat))∧e 11=.t (I (i:Nat)))∧h=[])
  (Ex:=fun x e h=>x=.exit 0∧h=[]) (by omega) ?_ ?_ (by omega) ?_ ?_
 ·rintro i p e h Y R hm hi U _ aB hw ⟨⟨s1,cM,cV,di⟩,rfl⟩ bW bk
  have gj:=pe U
  have wQ:=vP (p:=p) (L:=1000) (by have:=ae p hm;omega) (by omega)
  simp only[SF,H6,go_sem,s1,cM,cV,di,aB,gj,cx,gQ]
  refine hA b (fun p=>I (eI p)) (St:=fun j e h=>(e 1=.t (fO f b)∧e 6=.t (I (p:Nat))∧e 9=.t (fO f a)∧e 10=.t (I (a.length:Nat))∧e 11=.t (I (i:Nat))∧e 15=.t (fO f b)∧e 16=.t (I (b.length:Nat))∧e 17=.t (I (j:Nat)))∧h=[])
   (Ex:=fun x e h=>x=.exit 2∧(e 1=.t (fO f b)∧e 9=.t (fO f a)∧e 10=.t (I (a.length:Nat))∧e 11=.t (I (i:Nat)))∧h=[]) (by omega) ?_ ?_ (by omega) ?_ ?_
  ·rintro j q e h OM gn iE aU LO _ k0 je ⟨⟨b9,ns,mx,pZ,u9,wE,wF,An⟩,rfl⟩ QY fl
   have xt:=pe LO
   have yK:=vP (p:=q) (L:=1000) (by have:=ab q iE;omega) (by omega)
   have d:decide (((p / 2:Nat):Int)=((q / 2:Nat):Int))=false:=bA (by have:=J p hm q iE;omega)
   simp only[aaG,L2,go_sem,b9,ns,mx,pZ,u9,wE,wF,An,k0,je,xt,wQ,yK,d,gQ]
   all_goals(refine QY _ _ ⟨?_,rfl⟩;simp only[go_sem,b9,ns,mx,pZ,u9,wE,wF,je])
  ·rintro e h OM gn k0 ⟨⟨b9,ns,mx,pZ,u9,wE,wF,An⟩,rfl⟩ fl
   simp only[aaG,L2,go_sem,b9,ns,mx,pZ,u9,wE,wF,An,k0]
   all_goals(refine fl _ _ _ ⟨rfl,?_,rfl⟩;simp only[go_sem,b9,mx,pZ,u9])
  ·refine⟨?_,rfl⟩
   simp only[go_sem,s1,cM,cV,di,gQ]
  ·rintro x e h ⟨rfl,⟨b9,mx,pZ,u9⟩,rfl⟩
   simp only[SF,H6,go_sem,b9,mx,pZ,u9,hw]
   all_goals(refine bW _ _ ⟨?_,rfl⟩;simp only[go_sem,b9,mx,pZ,hw])
 ·rintro e h Y R aB ⟨⟨s1,cM,cV,di⟩,rfl⟩ bk
  simp only[SF,H6,go_sem,s1,cM,cV,di,aB]
  all_goals exact bk _ _ _ ⟨rfl,rfl⟩
 ·refine⟨?_,rfl⟩
  simp only[go_sem,cx]
 ·rintro x e h ⟨rfl,rfl⟩
  simp only[SE,go_sem]
theorem adj(a b:List Nat)(ae:hS t a)(ab:hS t b)(af:∀ x∈((ei t a).take a.length).drop 1,x ∉ ei t b):a0 Tryz.prog pol 115 [fY c1 c2 t,fO f a,fO f b]=some (B false):=by
 have bB:=U6 c1 c2 t h a ae f
 have aO:=U6 c1 c2 t h b ab f
 have bo:=ae.eh
 have ad:=ae.cx
 have cg:=ab.cx
 have fR:=yg t a
 have gR:=yg t b
 have w:IntKind.i64.wrap (((a.length+1:Nat):Int)-1)=((a.length:Nat):Int):=by rw[wrap_i64 (by omega) (by omega)];omega
 have asN:(((ei t a).map eI).map I).length=a.length+1:=by simp[fR]
 have hf:((((ei t a).map eI).map I).take a.length).drop 1=((((ei t a).take a.length).drop 1).map fun x=>I (eI x)):=by
  rw[← y7,← y7,← F9,← F9,Gi];rfl
 have aye:kp 1 (ah.t (.aP false 1 (((ei t a).map eI).map I))) (some (.t (I 1))) (some (.t (I ((a.length:Nat):Int)))) (some (.t (I ((a.length:Nat):Int))))=some (.t (.aP true 1 ((((ei t a).take a.length).drop 1).map fun x=>I (eI x)))):=by
  rw[← hf]
  simp[kp,hM,asNat,bo,fR]
 have qj:(((ei t a).take a.length).drop 1).length≤10:=by simp;omega
 generalize ((ei t a).take a.length).drop 1=fT at *
 refine cK 100 1 apo (bH rfl) ?_
 (repeat' first|simp only[SG,go_sem,bB,aO,asN,w,aye,bJ]|with_reducible first|refine aZ fun _=>?_|refine a1 ?_|fail)
 refine hA fT (fun x=>I (eI x)) (St:=fun i e h=>(e 9=.t (.aP false 1 (((ei t b).map eI).map I))∧e 24=.t (.aP true 1 (fT.map fun x=>I (eI x)))∧e 25=.t (I (fT.length:Nat))∧e 26=.t (I (i:Nat)))∧h=[])
  (Ex:=fun x e h=>x=.exit 0∧h=[]) (by omega) ?_ ?_ (by omega) ?_ ?_
 ·rintro i x e h Y R hm hi U bx aB hw ⟨⟨s1,s2,a8,cY⟩,rfl⟩ bW bk
  have anj:(fT.map fun x=>I (eI x))[i]? = some (I ((x:Nat):Int)):=bx
  have ln:=ajs false ((ei t b).map eI) ((x:Nat):Int) (by rw[bJ];omega)
  have fg:decide (((x:Nat):Int)∈(ei t b).map eI)=false:=bA fun iF=>by
   obtain⟨y,ar,e⟩:=nE.1 iF
   exact af x hm (by rwa[← show y=x from Int.ofNat.inj e])
  rw[fg]at ln
  simp only[aaJ,L3,go_sem,s1,s2,a8,cY,aB,hw,anj,ln]
  all_goals(refine bW _ _ ⟨?_,rfl⟩;simp only[go_sem,s1,s2,a8,hw])
 ·rintro e h Y R aB ⟨⟨s1,s2,a8,cY⟩,rfl⟩ bk
  simp only[aaJ,L3,go_sem,s1,s2,a8,cY,aB]
  all_goals exact bk _ _ _ ⟨rfl,rfl⟩
 ·refine⟨?_,rfl⟩
  simp only[go_sem,bJ]
 ·rintro x e h ⟨rfl,rfl⟩
  simp only[SG,go_sem]
theorem afJ(a b:List Nat)(ae:hS t a)(ab:hS t b)(iT:Gr t a b):a0 Tryz.prog pol 112 [fY c1 c2 t,.ip [fO f b],.ip [fO f a]]=some (.ch [B true,I 0]):=by
 obtain⟨jy,jz,jA⟩:=mw h
 have bB:=afj c1 c2 t h b ab f
 have aO:=ax7 f a b iT.s (fun p av=>by have:=ae.p p av;omega) (fun p av=>by have:=ab.p p av;omega) ae.cx ab.cx
 have ed:=adj c1 c2 t h f a b ae ab iT.c
 have gb:=adj c1 c2 t h f b a ab ae iT.d
 refine cK 10 1 apj (bH rfl) ?_
 (repeat' first|simp only[aaE,go_sem,bB,aO,ed,gb]|with_reducible first|refine aZ fun _=>?_|refine a1 ?_|fail)
theorem av1(a b:List Nat)(ae:hS t a)(ab:hS t b)(iT:Gr t a b):a0 Tryz.prog pol 84 [fY c1 c2 t,fO f a,fO f b]=some (.ch [B true,I 0]):=by
 have bB:=aen c1 c2 t h f a ae
 have aO:=afJ c1 c2 t h f a b ae ab iT
 have ed:a0 Tryz.prog pol 111 [fY c1 c2 t,fO f a,.fn (.func 112) [] [.ip [fO f b],.ip [fO f a]]]=some (.ch [B true,I 0]):=by
  refine cK 10 1 api (bH rfl) ?_
  (repeat' first|simp only[aaD,go_sem,bB,aO]|with_reducible first|refine aZ fun _=>?_|refine a1 ?_|fail)
 refine cK 10 1 aq5 (bH rfl) ?_
 simp only[acv,go_sem,ed]
end
structure dg where
 id:Int
 ew:Nat
 ls:Nat
 cls:Int
 gO:Int
 aK:Int
 kC:Int
 rK:Int
 dl:Int
 dv:List (List Nat)
 mK:Bool
 n5:Bool
abbrev h8(s:dg):List T:=[I s.id,I (s.ew:Nat),I (s.ls:Nat),I s.cls,I s.gO,I s.aK,I s.kC,I s.rK,I s.dl,.aP s.mK 1 (s.dv.map (fO s.n5))]
abbrev ek(s:dg):T:=.agg (h8 s)
structure iM(t:bR)(s:dg):Prop where
 id:1≤s.id∧s.id≤4095
 ew:s.ew<t.nodes.toNat∧h9 t s.ew=true
 ls:s.ls<t.nodes.toNat∧h9 t s.ls=true
 ne:s.ew≠s.ls
 gO:84≤s.gO∧s.gO≤1542
 dl:1≤s.dl∧s.dl≤1099511627776
 iR:s.cls=7∧(1≤s.aK∧s.aK≤240)∧s.kC=0∧s.rK=0∨s.cls=6∧s.aK=0∧(s.gO≤s.kC∧s.kC≤1048576)∧1≤s.rK∧s.rK≤2097152
 rt:∀ r∈s.dv,hS t r∧pF t r=s.ew∧nQ t r=s.ls
 qI:(∃ a,s.dv=[a])∨∃ a b,s.dv=[a,b]∧Gr t a b
theorem ah6(x a b:Int):a0 Tryz.prog pol 46 [I x,I a,I b]=some (B (decide (a≤x) && decide (x≤b))):=by
 generalize aF:decide (a≤x)=d
 generalize aE:decide (x≤b)=q
 refine cK 1 1 aqq (bH rfl) ?_
 cases d
 ·simp only[TH,go_sem,aF]
 ·simp only[TH,go_sem,aF,aE]
theorem uC(x a b:Int)(h:a≤x∧x≤b):a0 Tryz.prog pol 46 [I x,I a,I b]=some (B true):=by
 rw[ah6,bY h.1,bY h.2];rfl
theorem acJ(x a b:Int)(h:a≤x∧x≤b):a0 Tryz.prog pol 109 [I x,I a,I b]=some (B true):=by
 have ad:=bY h.1
 have ag:=bY h.2
 refine cK 1 1 apf (bH rfl) ?_
 simp only[aaA,go_sem,ad,ag]
theorem ah7(a b:Int)(ae:1≤a∧a≤1048576)(ab:1≤b∧b≤2097152):a0 Tryz.prog pol 79 [.agg [I a,I b]]=some (I 0):=by
 have bB:=acJ a 1 1048576 ae
 have aO:=acJ b 1 2097152 ab
 refine cK 1 1 aq0 (bH rfl) ?_
 simp only[acn,go_sem,bB,aO]
section
variable(c1 c2:Bool)(t:bR)(h:g0 t=true)
include h
theorem aeR(n:Nat)(aw:n<t.nodes.toNat∧h9 t n=true):a0 Tryz.prog pol 75 [fY c1 c2 t,I (n:Nat)]=some (B true):=by
 obtain⟨jy,jz,jA⟩:=mw h
 have w:IntKind.i64.wrap (t.nodes-1)=t.nodes-1:=wrap_i64 (by omega) (by omega)
 have bB:=uC (n:Nat) 0 (t.nodes-1) (by omega)
 obtain⟨g,ay⟩:=Ax h aw.1
 rw[aw.2]at g
 refine cK 1 1 aqX (bH rfl) ?_
 (repeat' first|simp only[aci,go_sem,w,bB,g,ay,bJ]|with_reducible first|refine aZ fun _=>?_|refine a1 ?_|fail)
variable(s:dg)(J:iM t s)
include J
omit h in
theorem aAm:a0 Tryz.prog pol 73 [.ip (h8 s)]=some (B true):=by
 have k:=uC s.id 1 4095 J.id
 refine cK 1 1 aqV (bH rfl) ?_
 simp only[acg,go_sem,k]
theorem aAq:a0 Tryz.prog pol 74 [.ip (dO c1 c2 t),.ip (h8 s)]=some (B true):=by
 have bB:=aeR c1 c2 t h s.ew J.ew
 have aO:=aeR c1 c2 t h s.ls J.ls
 have q:decide (((s.ew:Nat):Int)=((s.ls:Nat):Int))=false:=bA (by have:=J.ne;omega)
 refine cK 1 1 aqW (bH rfl) ?_
 (repeat' first|simp only[ach,go_sem,bB,aO,q]|with_reducible first|refine aZ fun _=>?_|refine a1 ?_|fail)
omit h in
theorem aAr:a0 Tryz.prog pol 76 [.ip (h8 s)]=some (B true):=by
 have k:=uC s.gO 84 1542 J.gO
 refine cK 1 1 aqY (bH rfl) ?_
 simp only[acj,go_sem,k]
omit h in
theorem aAs:a0 Tryz.prog pol 77 [.ip (h8 s)]=some (B true):=by
 have k:=uC s.dl 1 1099511627776 J.dl
 refine cK 1 1 aqZ (bH rfl) ?_
 simp only[ack,go_sem,k]
omit h in
theorem aAt:a0 Tryz.prog pol 78 [.ip (h8 s)]=some (B true):=by
 rcases J.iR with⟨c,p,b,r⟩|⟨c,p,b,r⟩
 ·have k:=uC s.aK 1 240 p
  unfold h8
  rw[c,b,r]
  refine cK 1 1 acm (bH rfl) ?_
  (repeat' first|simp only[T7,go_sem,k]|with_reducible first|refine aZ fun _=>?_|refine a1 ?_|fail)
 ·have bl:=J.gO
  have k:=ah7 s.kC s.rK (by omega) r
  have q:=bY b.1
  unfold h8
  rw[c,p]
  refine cK 1 1 acm (bH rfl) ?_
  (repeat' first|simp only[T7,go_sem,k,q]|with_reducible first|refine aZ fun _=>?_|refine a1 ?_|fail)
omit h in
theorem Fs:1≤s.dv.length∧s.dv.length≤2:=by
 rcases J.qI with⟨a,e⟩|⟨a,b,e,_⟩<;>rw[e]<;>simp
omit h in
theorem aAu:a0 Tryz.prog pol 80 [.ip (h8 s)]=some (B true):=by
 have ao:=Fs t s J
 have k:=uC ((s.dv.length:Nat):Int) 1 2 (by omega)
 refine cK 1 1 aq2 (bH rfl) ?_
 simp only[acp,go_sem,k,bJ]
theorem aAv:a0 Tryz.prog pol 81 [.ip (h8 s),.ip (dO c1 c2 t)]=some (B true):=by
 have ao:=Fs t s J
 refine cK 100 1 aq3 (bH rfl) ?_
 simp only[T9,go_sem,bJ]
 refine hA s.dv (fO s.n5) (St:=fun i e h=>(e 0=.t (.ip (h8 s))∧e 1=.t (.ip (dO c1 c2 t))∧e 6=.t (.aP s.mK 1 (s.dv.map (fO s.n5)))∧e 7=.t (I (s.dv.length:Nat))∧e 8=.t (I (i:Nat)))∧h=[])
  (Ex:=fun x e h=>x=.exit 0∧h=[]) (by omega) ?_ ?_ (by omega) ?_ ?_
 ·rintro i r e ai Y R hm hi U bx aB hw ⟨⟨bE,s1,bt,dE,dG⟩,rfl⟩ bW bk
  obtain⟨b9,b3,cG⟩:=J.rt r hm
  have k:=axo c1 c2 t h s.n5 r b9 s.ew s.ls b3 cG
  (repeat' first|simp only[acr,MN,go_sem,bE,s1,bt,dE,dG,aB,hw,bx,k]|with_reducible first|refine aZ fun _=>?_|refine a1 ?_|fail)
  all_goals(refine bW _ _ ⟨?_,rfl⟩;simp only[go_sem,bE,s1,bt,dE,hw])
 ·rintro e ai Y R aB ⟨⟨bE,s1,bt,dE,dG⟩,rfl⟩ bk
  simp only[acr,MN,go_sem,bE,s1,bt,dE,dG,aB]
  all_goals exact bk _ _ _ ⟨rfl,rfl⟩
 ·refine⟨?_,rfl⟩
  simp only[go_sem,bJ]
 ·rintro x e h ⟨rfl,rfl⟩
  simp only[T9,go_sem]
theorem aAx:a0 Tryz.prog pol 83 [.ip (h8 s),.ip (dO c1 c2 t)]=some (B true):=by
 rcases J.qI with⟨a,e⟩|⟨a,b,e,iT⟩
 ·unfold h8
  rw[e]
  refine cK 100 1 acu (bH rfl) ?_
  simp only[Ua,go_sem]
 ·have ae:=(J.rt a (by rw[e];simp)).1
  have ab:=(J.rt b (by rw[e];simp)).1
  have k:=av1 c1 c2 t h s.n5 a b ae ab iT
  unfold h8
  rw[e]
  refine cK 100 1 acu (bH rfl) ?_
  (repeat' first|simp only[Ua,go_sem,k]|with_reducible first|refine aZ fun _=>?_|refine a1 ?_|fail)
theorem aeX:a0 Tryz.prog pol 45 [fY c1 c2 t,ek s]=some (B true):=by
 have bB:=aAm t s J
 have aO:=aAq c1 c2 t h s J
 have ed:=aAr t s J
 have gb:=aAs t s J
 have lT:=aAt t s J
 have qv:=aAu t s J
 have qw:=aAv c1 c2 t h s J
 have u0:=aAx c1 c2 t h s J
 refine cK 100 1 aqp (bH rfl) ?_
 (repeat' first|simp only[TG,go_sem]|with_reducible first|refine aZ fun _=>?_|refine a1 ?_|fail)
 generalize eL:([T.fn (.func 73) [] [.ip (h8 s)],T.fn (.func 74) [] [.ip (dO c1 c2 t),.ip (h8 s)],T.fn (.func 76) [] [.ip (h8 s)],T.fn (.func 77) [] [.ip (h8 s)],T.fn (.func 78) [] [.ip (h8 s)],T.fn (.func 80) [] [.ip (h8 s)],T.fn (.func 81) [] [.ip (h8 s),.ip (dO c1 c2 t)],T.fn (.func 83) [] [.ip (h8 s),.ip (dO c1 c2 t)]]:List T)=L
 have hlen:L.length=8:=by rw[← eL];rfl
 have anf:∀(f:Fn) (a b:List T),(T.fn f a b).cells=[T.fn f a b]:=fun _ _ _=>rfl
 refine hA L (fun x=>x) (St:=fun i e h=>(e 17=.t (.aP true 1 L)∧e 18=.t (I 8)∧e 19=.t (I (i:Nat)))∧h=[])
  (Ex:=fun x e h=>x=.exit 0∧h=[]) (by omega) ?_ ?_ (by omega) ?_ ?_
 ·rintro i x e ai Y R hm hi U bx aB hw ⟨⟨bE,s1,s2⟩,rfl⟩ bW bk
  rw[hlen]at aB hi
  have k0:decide (((i:Nat):Int)<8)=true:=aB
  rw[← hlen]at hi
  rw[← eL]at hm
  simp only[iu,mG,mE]at hm
  rcases hm with rfl|rfl|rfl|rfl|rfl|rfl|rfl|rfl
  all_goals(simp only[abH,Mv,go_sem,bE,s1,s2,k0,hw,U,hi,anf,bB,aO,ed,gb,lT,qv,qw,u0])
  all_goals(refine bW _ _ ⟨?_,rfl⟩;simp only[go_sem,bE,s1,hw])
 ·rintro e ai Y R aB ⟨⟨bE,s1,s2⟩,rfl⟩ bk
  rw[hlen]at s2
  have axJ:e 19=.t (I 8):=s2
  simp only[abH,Mv,go_sem,bE,s1,axJ]
  all_goals exact bk _ _ _ ⟨rfl,rfl⟩
 ·refine⟨?_,rfl⟩
  simp only[go_sem]
 ·rintro x e h ⟨rfl,rfl⟩
  simp only[TG,go_sem]
end
structure fZ where
 g:Int
 aP:Int
 fW:Int
 gG:Int
abbrev sO(u:fZ):T:=.agg [I u.g,I u.aP,I u.fW,I u.gG]
structure m4(u:fZ):Prop where
 g:1≤u.g∧u.g≤10000
 aP:0≤u.aP∧u.aP≤1000
 fW:0≤u.fW∧u.fW≤10000
 gG:1542≤u.gG∧u.gG≤65536
theorem aeA(u:fZ)(h:m4 u):a0 Tryz.prog pol 21 [sO u]=some (I 0):=by
 have bB:=uC u.g 1 10000 h.g
 have aO:=uC u.aP 0 1000 h.aP
 have ed:=uC u.fW 0 10000 h.fW
 have gb:=uC u.gG 1542 65536 h.gG
 refine cK 100 1 apR (bH rfl) ?_
 (repeat' first|simp only[abh,go_sem,bB,aO,ed,gb]|with_reducible first|refine aZ fun _=>?_|refine a1 ?_|fail)
theorem X3(c1 c2:Bool)(t:bR)(h:g0 t=true)(u:fZ)(hu:m4 u)(s:dg)(J:iM t s)(af:s.cls=7)(k:Nat)(an:k<s.dv.length):a0 Tryz.prog pol 85 [fY c1 c2 t,sO u,ek s,I (k:Nat)]=some (I 0):=by
 have bB:=Ky (c1:=c1) (c2:=c2) h
 have aO:=aeA u hu
 have ed:=aeX c1 c2 t h s J
 have ao:=Fs t s J
 have w:IntKind.i64.wrap (((s.dv.length:Nat):Int)-1)=((s.dv.length:Nat):Int)-1:=wrap_i64 (by omega) (by omega)
 have gb:=uC (k:Nat) 0 (((s.dv.length:Nat):Int)-1) (by omega)
 have q:decide (s.cls=7)=true:=bY af
 refine cK 100 1 aq6 (bH rfl) ?_
 (repeat' first|simp only[acw,go_sem,bB,aO,ed,w,gb,q,bJ]|with_reducible first|refine aZ fun _=>?_|refine a1 ?_|fail)
theorem axL(c1 c2:Bool)(t:bR)(h:g0 t=true):a0 Tryz.prog pol 20 [fY c1 c2 t,gN]=some (I 0):=by
 have bB:=Ky (c1:=c1) (c2:=c2) h
 refine cK 100 1 abg (bH rfl) ?_
 (repeat' first|simp only[Ik,go_sem,bB]|with_reducible refine aZ fun _=>?_|((with_reducible refine yM ?_ ?_);rfl)|((with_reducible refine wc (body:=c6 _ _ _ _ _ _ S7) ?_ ?_);exact bH rfl;simp only[S8,Il])|((with_reducible refine wc (body:=c6 _ _ _ _ _ _ S9) ?_ ?_);exact bH rfl;simp only[Ta,Im])|fail)
theorem ae9:dB Tryz.prog 112=some (.map 3 4):=by kernel_rfl
theorem as6(l:List (Int × Bool))(k:Int)(Y:aj):nn Tryz.prog 112 false (.map (fk ij iS l)::Y) (.mp 0) (.t (I k))=some (.t (B ((gZ l k).getD false))):=by
 have:=ac7 (h:=.map (fk ij iS l)::Y) (o:=0) M3 ae9 Wt k (f:=iS) (l:=l) rfl
 rw[show fb (ij k)=I k from rfl]at this
 rw[this]
 cases gZ l k<;>rfl
theorem az5(l:List (Int × Bool))(k:Int)(v:Bool)(Y:aj):ua Tryz.prog 112 (.map (fk ij iS l)::Y) (.mp 0) (.t (I k)) (.t (B v))=some (.map (fk ij iS (mY l k v))::Y) :=
 Oe (h:=.map (fk ij iS l)::Y) (o:=0) M3 ae9 k v (f:=iS) (l:=l) rfl
theorem axM(c1 c2 c:Bool)(t:bR)(h:g0 t=true)(l:List dg)(ao:l.length≤12)(J:∀ s∈l,iM t s)(aw:∀(i j:Nat) (a b:dg),l[i]? = some a→l[j]? = some b→i<j→a.id≠b.id):a0 Tryz.prog pol 20 [fY c1 c2 t,.aP c 10 (l.map ek)]=some (I 0):=by
 have bB:=Ky (c1:=c1) (c2:=c2) h
 have d1:decide ((12:Int)<((l.length:Nat):Int))=false:=bA (by omega)
 refine cK 100 1 abg (bH rfl) ?_
 (repeat' first|simp only[Ik,go_sem,bB,d1,bJ]|with_reducible first|refine aZ fun _=>?_|refine a1 ?_|fail)
 refine hA l ek (St:=fun i e h=>(e 1=.t (.aP c 10 (l.map ek))∧e 2=.t (.ip (dO c1 c2 t))∧e 19=.t (.aP c 10 (l.map ek))∧e 20=.t (I (l.length:Nat))∧e 21=.t (I (i:Nat)))∧h=[])
  (Ex:=fun x e h=>x=.exit 0∧e 1=.t (.aP c 10 (l.map ek))∧h=[]) (by omega) ?_ ?_ (by omega) ?_ ?_
 ·rintro i s e ai Y R hm hi U bx aB hw ⟨⟨s1,s2,a8,cY,bC⟩,rfl⟩ bW bk
  have aO:=aeX c1 c2 t h s (J s hm)
  simp only[S8,Il,go_sem,s1,s2,a8,cY,bC,aB,hw,bx,aO]
  all_goals(refine bW _ _ ⟨?_,rfl⟩;simp only[go_sem,s1,s2,a8,cY,hw])
 ·rintro e ai Y R aB ⟨⟨s1,s2,a8,cY,bC⟩,rfl⟩ bk
  simp only[S8,Il,go_sem,s1,s2,a8,cY,bC,aB]
  all_goals(refine bk _ _ _ ⟨rfl,?_,rfl⟩;simp only[go_sem,s1])
 ·refine⟨?_,rfl⟩
  simp only[go_sem,bJ]
 ·rintro x e h ⟨rfl,ad,rfl⟩
  simp only[Ik,go_sem,ad,bJ]
  refine hA l ek (St:=fun i e h=>(e 8=.mp 0∧e 31=.t (.aP c 10 (l.map ek))∧e 32=.t (I (l.length:Nat))∧e 33=.t (I (i:Nat)))∧∃ m,h=[.map (fk ij iS m)]∧∀ k,gZ m k=some true→∃(j:Nat) (a:dg),j<i∧l[j]? = some a∧a.id=k)
   (Ex:=fun x e h=>x=.exit 2) (by omega) ?_ ?_ (by omega) ?_ ?_
  ·rintro i s e ai Y R hm hi U bx aB hw ⟨⟨s1,s2,a8,cY⟩,m,rfl,zI⟩ bW bk
   have kZ:=as6 m s.id
   have rl:=az5 m s.id true
   have fg:(gZ m s.id).getD false=false:=by
    cases ay:gZ m s.id with
    | none=>rfl
    | some b =>
     cases b with
     | false=>rfl
     | true =>
      obtain⟨j,a,aU,ae,he⟩:=zI _ ay
      exact absurd he (aw j i a s ae U aU)
   rw[fg]at kZ
   have Hn:∀ aY q (m:List (Int × Bool)),dk aY q (.map (fk ij iS m))=some (.map (fk ij iS m)):=fun aY q m=>alo fun v=>⟨_,rfl⟩
   (repeat' first|simp only[Ta,Im,go_sem,s1,s2,a8,cY,aB,hw,bx,kZ,rl,Hn]|with_reducible first|refine aZ fun _=>?_|refine a1 ?_|fail)
   all_goals(refine bW _ _ ⟨?_,_,rfl,fun k an=>?_⟩)
   ·simp only[go_sem,s1,s2,a8,hw]
   ·rw[Cl]at an
    split at an
    ·exact⟨i,s,by omega,U,by assumption⟩
    ·obtain⟨j,a,a3,a7,cz⟩:=zI k an
     exact⟨j,a,by omega,a7,cz⟩
  ·rintro e ai Y R aB ⟨⟨s1,s2,a8,cY⟩,m,rfl,zI⟩ bk
   simp only[Ta,Im,go_sem,s1,s2,a8,cY,aB]
   all_goals exact bk _ _ _ rfl
  ·refine⟨?_,[],rfl,fun k an=>by simp[gZ]at an⟩
   simp only[go_sem,bJ]
  ·rintro x e h rfl
   simp only[Ik,go_sem]
structure rU where
 fN:Nat
 gH:Int
 tK:Int
 op:Int
 dA:Int
abbrev mj(x:rU):T:=.agg [I (x.fN:Nat),I x.gH,I x.tK,I x.op,I x.dA]
def Ws:rU:=⟨0,0,0,0,0⟩
section
variable(t:bR)(u:fZ)(s:dg)
def yh(x:rU):Int:=x.op+x.dA+vD t x.fN+u.fW
def Nl(x:rU)(p:Nat):rU:=⟨p,yh t u x-2*u.aP,yh t u x+2*u.aP,(yh t u x+2*u.aP+u.g-1) / u.g*u.g,s.gO*tR t p⟩
def ih(r:List Nat):Nat→rU
 | 0=>⟨r[0]?.getD 0,0,0,0,s.gO*tR t (r[0]?.getD 0)⟩
 | i+1=>Nl t u s (ih r i) (r[i+1]?.getD 0)
def Al(r:List Nat):Nat→rU
 | 0=>Ws
 | i+1=>ih t u s r i
structure LD(u:fZ)(k:Nat)(x:rU):Prop where
 qD:0≤x.op
 hB:x.op≤k*1600000
 eh:1≤x.dA
 cx:x.dA≤1542000
 tK:x.tK≤x.op
 gH:x.gH≤x.tK
 e7:-2000≤x.gH
 aBI:∃ m,x.op=m*u.g
variable(h:g0 t=true)(hu:m4 u)(J:iM t s){r:List Nat}(al:hS t r)
include h J
theorem US{p:Nat}(av:p<2*t.cd.length):1≤s.gO*tR t p∧s.gO*tR t p≤1542000:=by
 obtain⟨⟨cN,db⟩,_⟩:=M9 h av
 have:=J.gO
 refine⟨Kf (by omega:(1:Int)≤84*1) (uo (by omega) cN (by omega) (by omega)),?_⟩
 exact Kf (uo (c:=1542) (d:=1000) (by omega) db (by omega) (by omega)) (by omega)
include hu al
theorem Ea:∀ i,i<r.length→LD u i (ih t u s r i)∧r[i]? = some (ih t u s r i).fN∧(ih t u s r i).fN<2*t.cd.length:=by
 intro i
 induction i with
 | zero =>
  intro hi
  have U:r[0]? = some r[0]:=fC hi
  have av:=al.p _ (oP hi)
  have b:=US t s h J av
  simp only[ih,U,na]
  exact⟨⟨by simp,by simp,b.1,b.2,by simp,by simp,by simp,⟨0,by simp⟩⟩,by first|rfl|trivial,av⟩
 | succ i au =>
  intro hi
  obtain⟨b,sw,pQ⟩:=au (by omega)
  have U:r[i+1]? = some r[i+1]:=fC hi
  have av:=al.p _ (oP hi)
  have hr:=US t s h J av
  obtain⟨_,d0,d1⟩:=M9 h pQ
  obtain⟨gV,cg⟩:=hu.g
  have bE:=hu.aP
  have qE:=hu.fW
  have qD:=b.qD
  have hB:=b.hB
  have eh:=b.eh
  have cx:=b.cx
  simp only[ih,U,na,Nl]
  have pN:yh t u (ih t u s r i)=(ih t u s r i).op+(ih t u s r i).dA+vD t (ih t u s r i).fN+u.fW:=rfl
  generalize yh t u (ih t u s r i)=bS at *
  have aT:(bS+2*u.aP+u.g-1) / u.g*u.g≤bS+2*u.aP+u.g-1:=Dc _ (by omega)
  have aW:bS+2*u.aP+u.g-1<((bS+2*u.aP+u.g-1) / u.g+1)*u.g:=FY _ (by omega)
  rw[za,zb]at aW
  refine⟨⟨by simp only;omega,by simp only;omega,hr.1,hr.2,by simp only;omega,by simp only;omega,by simp only;omega,⟨_,rfl⟩⟩,by first|rfl|trivial,av⟩
end
section
variable(av:Nat→aj)(N:Nat)(bG:∀ s,(av s).length=N)(bn aR o:Nat)(t:bR)(u:fZ)(s:dg)(r:List Nat)
 (ar:∀(i:Nat) (X:aj) (Q:ah→aj→Prop),i<r.length→(∀ cw,Q (.t (B true)) (av (i+1)++X++cw))→ej (inl Tryz.prog pol (a0 Tryz.prog pol) aR bn (.bF o) [.t (mj (ih t u s r i))] (av i++X)) Q)
 (fm:∀(s:Nat) (h:aj) (q:Nat),N≤q→b5 (dk h (bV q)) (av s)=some (av s)) (qm:o<N)
include bG ar fm qm
theorem aeC(c1 c2:Bool)(h:g0 t=true)(hu:m4 u)(J:iM t s)(k:Nat)(an:s.dv[k]? = some r)(Q:ah→aj→Prop)(aw:100<aR)(bI:∀ z,Q (.t (.ch [])) (av r.length++[z])) :
  ej (inl Tryz.prog pol (a0 Tryz.prog pol) aR (bn+1) (.fn 116) [.bF o,.t (.ip (h8 s)),.t (.ip [I (k:Nat)]),.t (.ip (dO c1 c2 t)),.t (.ip [I u.g,I u.aP,I u.fW,I u.gG])] (av 0)) Q:=by
 obtain⟨jy,jz,jA⟩:=mw h
 have al:=(J.rt r (gp an)).1
 have fA:=al.cx
 have tk:∀(s:Nat) (x:a9) (Y:aj),(av s++(x::Y))[N]? = some x:=fun s x Y=>by rw[g5 (by rw[bG];omega),bG,nC];rfl
 have Au:∀(s:Nat) (x z:a9) (Y:aj),(av s++x::Y).set N z=av s++z::Y:=fun s x z Y=>by rw[uz,a2 (by rw[bG];omega),bG,nC];rfl
 have pL:∀(s:Nat) (x:a9) (Y:aj),(av s++x::Y).take (N+1)=av s++[x]:=fun s x Y=>by rw[y3,bG,l8 (by rw[bG];omega),show N+1-N=1 by omega];rfl
 have vM:∀(s:Nat) (U:aj) (y:rU) (m:Nat),b5 (dk U (bV (N+1))) (av s++[.row 5 [.t (mj y)] m])=some (av s++[.row 5 [.t (mj y)] m]):=fun s U y m=>Nc _ _ _ _ (fm s U (N+1) (by omega)) (by simp[b5,dk,dw,cL])
 have hlen:∀(s:Nat) (Y:aj),(av s++Y).length=N+Y.length:=fun s Y=>by simp[bG]
 have f2:decide (N+1≤o)=false:=bA (by omega)
 have f3:decide (N+1≤N)=false:=bA (by omega)
 have f4:∀ k,N+1<N+(k+1+1):=fun k=>by omega
 have cx:=rI r
 have Rr:(s.dv.map (fO s.n5))[k]? = some (fO s.n5 r):=by rw[eE,an];rfl
 have zH:k<s.dv.length:=(cD.1 an).1
 refine lp apq (bH rfl) ?_
 simp only[SH,go_sem,bG,cx,Rr,zH,bJ]
 refine hA r (fun p=>I (eI p)) (St:=fun i e h=>(e 0=.bF o∧e 1=.t (.ip (h8 s))∧e 3=.t (.ip (dO c1 c2 t))∧e 4=.t (.ip [I u.g,I u.aP,I u.fW,I u.gG])∧e 6=.ref N 1 0 0∧e 14=.t (fO s.n5 r)∧e 15=.t (I (r.length:Nat))∧e 16=.t (I (i:Nat)))∧∃ m,m≤1∧h=av i++[.row 5 [.t (mj (Al t u s r i))] m])
  (Ex:=fun x e h=>x=.exit 0∧∃ z,h=av r.length++[z]) (by omega) ?_ ?_ (by omega) ?_ ?_
 ·rintro i p e ai Y R hm hi U _ aB hw ⟨⟨bE,s1,a8,cY,bt,lr,j5,im⟩,m,h5,rfl⟩ bW bk
  have vV:=al.p p hm
  have gj:=pe U
  have wQ:=vP vV (show t.cd.length≤1000 by omega)
  have G2:=EU vV
  have hr:=US t s h J vV
  have wl:IntKind.i64.wrap (s.gO*tR t p)=s.gO*tR t p:=wrap_i64 (by omega) (by omega)
  have ee:ih t u s r i=if i=0 then⟨p,0,0,0,s.gO*tR t p⟩else Nl t u s (Al t u s r i) p:=by
   cases i with
   | zero=>simp[ih,U]
   | succ i=>simp[ih,U,Al]
  have m7:=ar i [.row 5 [.t (mj (ih t u s r i))] 1]
  have yt:Al t u s r (i+1)=ih t u s r i:=rfl
  unfold tR at *
  by_cases kY:i=0
  ·have d:decide ((0:Int)<((i:Nat):Int))=false:=bA (by omega)
   have avT:Al t u s r i=Ws:=by rw[kY];rfl
   rw[a6 kY]at ee
   rw[avT]
   rw[ee]at m7 yt
   generalize gw t (p / 2)=l at *
   unfold Ws
   (repeat' first|simp only[H7,BV,go_sem,bE,s1,a8,cY,bt,lr,j5,im,aB,hw,gj,cx,wQ,G2,wl,d,bG,hlen,tk,Au,h5,fU,bJ]|with_reducible first|refine aZ fun _=>?_|refine a1 ?_|fail)
   all_goals(with_reducible refine m7 _ hi ?_)
   all_goals intro cw
   all_goals(cases cw)
   all_goals(simp only[H7,BV,go_sem,bE,s1,a8,cY,bt,lr,j5,im,hw,bG,hlen,fU,f4,pL,vM,f2,f3,qd])
   all_goals(refine bW _ _ ⟨?_,1,by omega,by rw[yt]⟩;simp only[go_sem,bE,s1,a8,cY,bt,lr,j5,hw,f2,f3,qd])
  ·have d:decide ((0:Int)<((i:Nat):Int))=true:=bY (by omega)
   rw[a2 kY]at ee
   rw[ee]at m7 yt
   have aod:LD u (i-1) (Al t u s r i)∧(Al t u s r i).fN<2*t.cd.length:=by
    obtain⟨j,rfl⟩:∃ j,i=j+1:=⟨i-1,by omega⟩
    obtain⟨a,b,c⟩:=Ea t u s h hu J al j (by omega)
    exact⟨a,c⟩
   obtain⟨Nr,pp⟩:=aod
   have yK:=vP pp (show t.cd.length≤1000 by omega)
   have xt:=EU pp
   obtain⟨_,d0,d1⟩:=M9 h pp
   obtain⟨gV,cg⟩:=hu.g
   have aDd:=hu.aP
   have aDe:=hu.fW
   have qD:=Nr.qD
   have hB:=Nr.hB
   have asW:=Nr.eh
   have UM:=Nr.cx
   have aB8:i≤8:=by omega
   unfold Nl yh vD tR at m7 yt
   unfold vD at d0 d1
   generalize Al t u s r i=x at *
   obtain⟨fN,gH,tK,op,dA⟩:=x
   simp only at yK xt d0 d1 qD hB asW UM m7 yt
   generalize gw t (fN / 2)=I2 at *
   generalize gw t (p / 2)=l at *
   have cI:IntKind.i64.wrap (op+dA)=op+dA:=wrap_i64 (by omega) (by omega)
   have dZ:IntKind.i64.wrap (op+dA+I2.kE)=op+dA+I2.kE:=wrap_i64 (by omega) (by omega)
   have hE:IntKind.i64.wrap (op+dA+I2.kE+u.fW)=op+dA+I2.kE+u.fW:=wrap_i64 (by omega) (by omega)
   generalize pN:op+dA+I2.kE+u.fW=bS at *
   have la:IntKind.i64.wrap (2*u.aP)=2*u.aP:=wrap_i64 (by omega) (by omega)
   have vi:IntKind.i64.wrap (bS-2*u.aP)=bS-2*u.aP:=wrap_i64 (by omega) (by omega)
   have yL:IntKind.i64.wrap (bS+2*u.aP)=bS+2*u.aP:=wrap_i64 (by omega) (by omega)
   have JF:IntKind.i64.wrap (bS+2*u.aP+u.g)=bS+2*u.aP+u.g:=wrap_i64 (by omega) (by omega)
   have aAM:IntKind.i64.wrap (bS+2*u.aP+u.g-1)=bS+2*u.aP+u.g-1:=wrap_i64 (by omega) (by omega)
   have aT:(bS+2*u.aP+u.g-1) / u.g*u.g≤bS+2*u.aP+u.g-1:=Dc _ (by omega)
   have bw:0≤(bS+2*u.aP+u.g-1) / u.g:=uB (by omega) (by omega)
   have cB:(bS+2*u.aP+u.g-1) / u.g≤bS+2*u.aP+u.g-1:=AQ _ (by omega)
   have bZ:0≤(bS+2*u.aP+u.g-1) / u.g*u.g:=s5 bw (by omega)
   have yH:(bS+2*u.aP+u.g-1).tdiv u.g=(bS+2*u.aP+u.g-1) / u.g:=FZ (by omega)
   have Oh:IntKind.i64.wrap ((bS+2*u.aP+u.g-1) / u.g)=(bS+2*u.aP+u.g-1) / u.g:=wrap_i64 (by omega) (by omega)
   have aAH:IntKind.i64.wrap ((bS+2*u.aP+u.g-1) / u.g*u.g)=(bS+2*u.aP+u.g-1) / u.g*u.g:=wrap_i64 (by omega) (by omega)
   have ft:u.g≠0:=by omega
   (repeat' first|simp only[H7,BV,go_sem,bE,s1,a8,cY,bt,lr,j5,im,aB,hw,gj,cx,wQ,G2,wl,d,bG,hlen,tk,Au,h5,yK,xt,cI,dZ,hE,pN,la,vi,yL,JF,aAM,yH,Oh,aAH,ft,fU,bJ]|with_reducible first|refine aZ fun _=>?_|refine a1 ?_|fail)
   all_goals(with_reducible refine m7 _ hi ?_)
   all_goals intro cw
   all_goals(cases cw)
   all_goals(simp only[H7,BV,go_sem,bE,s1,a8,cY,bt,lr,j5,im,hw,bG,hlen,fU,f4,pL,vM,f2,f3,qd])
   all_goals(refine bW _ _ ⟨?_,1,by omega,by rw[yt]⟩;simp only[go_sem,bE,s1,a8,cY,bt,lr,j5,hw,f2,f3,qd])
 ·rintro e ai Y R aB ⟨⟨bE,s1,a8,cY,bt,lr,j5,im⟩,m,h5,rfl⟩ bk
  simp only[H7,BV,go_sem,bE,s1,a8,cY,bt,lr,j5,im,aB]
  all_goals exact bk _ _ _ ⟨rfl,_,rfl⟩
 ·refine⟨?_,0,by omega,rfl⟩
  simp only[go_sem]
 ·rintro x e h ⟨rfl,z,rfl⟩
  simp only[SH,go_sem]
  exact bI z
end
theorem xp{α:Type}{k:Nat}{enc:α→T}{l:List α}{h:aj}{p:Nat→Bool}:dk h p (ev k enc l)=some (ev k enc l):=by
 rw[aei]
 simp only[dk,zj,cQ]
def iW(t:bR)(u:fZ)(s:dg)(r:List Nat)(k:Nat):List rU:=(List.range k).map (ih t u s r)
theorem Eb(t:bR)(u:fZ)(s:dg)(r:List Nat)(k:Nat):(iW t u s r k).length=k:=by simp[iW]
theorem ZS(t:bR)(u:fZ)(s:dg)(r:List Nat)(k:Nat):iW t u s r (k+1)=iW t u s r k++[ih t u s r k]:=by simp[iW,y4]
section
variable(c1 c2:Bool)(t:bR)(u:fZ)(s:dg)(r:List Nat)(h:g0 t=true)(hu:m4 u)(J:iM t s)
noncomputable abbrev IZ(E:aM):a9:=.loop 47 (rD 32 (eR (some [11]) E)) [26] (hc Tryz.prog 47 0).1 (hc Tryz.prog 47 0).2 false none
noncomputable def xR(E:aM)(i:Nat):aj:=[ev 5 mj (iW t u s r i),.row 1 [.ms 0 i 0 i 5 false] (min i 1),IZ E]
theorem afW(E:aM)(dm:E 11=.ref 1 1 0 0)(bn aR i:Nat)(hi:i≤8)(X:aj)(Q:ah→aj→Prop)(bI:∀ cw,Q (.t (B true)) (xR t u s r E (i+1)++X++cw)) :
  ej (inl Tryz.prog pol (a0 Tryz.prog pol) aR (bn+1) (.bF 2) [.t (mj (ih t u s r i))] (xR t u s r E i++X)) Q:=by
 unfold xR at bI ⊢
 rw[ZS,← yx]at bI
 have ao:=Eb t u s r i
 have jP:lY 5 i (some (ev 5 mj (iW t u s r i))):=by have:=ph (k:=5) (enc:=mj) (l:=iW t u s r i);rwa[ao]at this
 generalize iW t u s r i=L at *
 generalize ih t u s r i=x at *
 obtain⟨a,b,c,d,e⟩:=x
 have fr:(i+1)*40≤eQ:=l9 (by omega) (by omega)
 have fR:min i 1≤1:=by omega
 have gR:min (i+1) 1=1:=by omega
 rw[gR]at bI
 generalize min i 1=m at *
 refine Cm (E:=eR (some [11]) E) rfl rfl rfl aqs aqt ?_
 simp only[dS,ea]at bI ⊢
 simp only[abI,abJ,go_sem,dm,mM,nu,jP,fr,fR,pg,pj]
 all_goals(have aE:=bI [.row 5 [.t (mj ⟨a,b,c,d,e⟩)] 1];first|exact aE|(simp only[fU,dS,ea]at aE;exact aE))
theorem an3(E:aM)(dm:E 11=.ref 1 1 0 0)(i:Nat)(aY:aj)(q:Nat)(aE:3≤q):b5 (dk aY (bV q)) (xR t u s r E i)=some (xR t u s r E i):=by
 have a3:decide (q≤1)=false:=bA (by omega)
 have hC:q≠0:=by omega
 have fD:dk aY (bV q) (IZ E)=some (IZ E):=by
  rw[xo]
  simp only[go_sem,dm,a3]
 simp only[xR,b5,fD,xp]
 simp[dk,dw,cL,bV,hC]
theorem aeB(k:Nat):a0 Tryz.prog pol 86 [fY c1 c2 t,sO u,ek s,I (k:Nat)]=some (.fn (.func 116) [] [.ip (h8 s),.ip [I (k:Nat)],.ip (dO c1 c2 t),.ip [I u.g,I u.aP,I u.fW,I u.gG]]):=by
 refine cK 1 1 aq7 (bH rfl) ?_
 simp only[acx,go_sem]
include h hu J
theorem WD(af:s.cls=7)(k:Nat)(an:s.dv[k]? = some r):a0 Tryz.prog pol 47 [fY c1 c2 t,sO u,ek s,I (k:Nat)]=some (.ch [.aP false 5 ((iW t u s r r.length).map mj),I 0]):=by
 have al:=(J.rt r (gp an)).1
 have fA:=al.cx
 have kl:=al.eh
 have bB:=X3 c1 c2 t h u hu s J af k (cD.1 an).1
 have x9:=aeB c1 c2 t u s k
 refine cK 200 3 aqr (bH rfl) ?_
 (repeat' first|simp only[TI,go_sem,bB,x9]|with_reducible first|refine aZ fun _=>?_|refine a1 ?_|fail)
 have key:∀ E:aM,([.row 5 [] 0,.row 1 [.ms 0 0 0 0 5 false] 0,IZ E]:aj)=xR t u s r E 0:=fun E=>rfl
 rw[key]
 have xu:100<200:=by omega
 have QG:2<3:=by omega
 with_reducible refine aeC (fun i=>xR t u s r _ i) 3 (fun o=>rfl) 2 200 2 t u s r ?_ ?_ QG c1 c2 h hu J k an _ xu ?_
 ·intro i X Q hi bI
  exact afW t u s r _ (by simp only[go_sem]) 1 200 i (by omega) X Q bI
 ·intro i h q aE
  exact an3 t u s r _ (by simp only[go_sem]) i h q aE
 ·intro z
  have ao:=Eb t u s r r.length
  have jP:lY 5 r.length (some (ev 5 mj (iW t u s r r.length))):=by have:=ph (k:=5) (enc:=mj) (l:=iW t u s r r.length);rwa[ao]at this
  have fR:min r.length 1=1:=by omega
  unfold xR
  rw[fR]
  generalize iW t u s r r.length=L at *
  simp only[IZ,dS,ea]
  have iR:∀ k:Nat,2<k+1+1+1:=fun k=>by omega
  simp only[TI,go_sem,jP,pg,pj,xp,iR]
end
def tZ(t:bR)(u:fZ)(s:dg)(r:List Nat):Nat→Int
 | 0=>0
 | i+1=>yh t u (ih t u s r i)
section
variable(c1 c2:Bool)(t:bR)(u:fZ)(s:dg)(r:List Nat)(h:g0 t=true)(hu:m4 u)(J:iM t s)(al:hS t r)
noncomputable abbrev yd(E:aM):a9:=.loop 49 (rD 45 (eR (some [4,5,11]) E)) [26] (hc Tryz.prog 49 0).1 (hc Tryz.prog 49 0).2 false none
noncomputable def xT(E:aM)(i:Nat):aj:=[.row 1 [.t (I (tZ t u s r i))] 1,yd E]
include h hu J al
theorem adA(i:Nat)(hi:i<r.length):let x:=ih t u s r i;(0≤x.op∧x.op≤12800000∧1≤x.dA∧x.dA≤1542000)∧x.fN<2*t.cd.length∧(0≤vD t x.fN∧vD t x.fN≤10000)∧0≤u.fW∧u.fW≤10000:=by
 have ao:=al.cx
 obtain⟨a,b,c⟩:=Ea t u s h hu J al i hi
 have hB:=a.hB
 exact⟨⟨a.qD,by omega,a.eh,a.cx⟩,c,(M9 h c).2,hu.fW⟩
theorem agb(E:aM)(dm:E 4=.t (.ip (dO c1 c2 t))∧E 5=.t (.ip [I u.g,I u.aP,I u.fW,I u.gG])∧E 11=.ref 0 1 0 0)(bn aR i:Nat)(hi:i<r.length)(X:aj)(Q:ah→aj→Prop)(bI:∀ cw,Q (.t (B true)) (xT t u s r E (i+1)++X++cw)) :
  ej (inl Tryz.prog pol (a0 Tryz.prog pol) aR (bn+1) (.bF 1) [.t (mj (ih t u s r i))] (xT t u s r E i++X)) Q:=by
 obtain⟨jy,jz,jA⟩:=mw h
 obtain⟨⟨qD,hB,eh,cx⟩,pp,⟨d0,d1⟩,qE,cP⟩:=adA t u s r h hu J al i hi
 unfold xT at bI ⊢
 rw[tZ]at bI
 generalize tZ t u s r i=ae7 at *
 unfold yh vD at bI
 unfold vD at d0 d1
 generalize ih t u s r i=x at *
 obtain⟨fN,gH,tK,op,dA⟩:=x
 simp only at bI qD hB eh cx pp d0 d1
 have yK:=vP pp (show t.cd.length≤1000 by omega)
 have xt:=EU pp
 generalize gw t (fN / 2)=l at *
 have cI:IntKind.i64.wrap (op+dA)=op+dA:=wrap_i64 (by omega) (by omega)
 have dZ:IntKind.i64.wrap (op+dA+l.kE)=op+dA+l.kE:=wrap_i64 (by omega) (by omega)
 have hE:IntKind.i64.wrap (op+dA+l.kE+u.fW)=op+dA+l.kE+u.fW:=wrap_i64 (by omega) (by omega)
 refine Cm (E:=eR (some [4,5,11]) E) rfl rfl rfl aqw aqx ?_
 simp only[dS,ea]at bI ⊢
 (repeat' first|simp only[abK,abL,go_sem,dm,mM,nu,yK,xt,cI,dZ,hE,bJ]|with_reducible first|refine aZ fun _=>?_|refine a1 ?_|fail)
 all_goals(have aE:=bI [.row 5 [.t (mj ⟨fN,gH,tK,op,dA⟩)] 1];first|exact aE|(simp only[fU,dS,ea]at aE;exact aE))
omit h hu J al in
theorem an5(E:aM)(dm:E 4=.t (.ip (dO c1 c2 t))∧E 5=.t (.ip [I u.g,I u.aP,I u.fW,I u.gG])∧E 11=.ref 0 1 0 0)(i:Nat)(aY:aj)(q:Nat)(aE:2≤q):b5 (dk aY (bV q)) (xT t u s r E i)=some (xT t u s r E i):=by
 have hC:decide (q≤0)=false:=bA (by omega)
 have fD:dk aY (bV q) (yd E)=some (yd E):=by
  rw[xo]
  simp only[go_sem,dm,hC]
 simp only[xT,b5,fD]
 simp[dk,dw,cL,bV]
omit al in
theorem aga(af:s.cls=7)(k:Nat)(an:s.dv[k]? = some r):a0 Tryz.prog pol 49 [fY c1 c2 t,sO u,ek s,I (k:Nat)]=some (.ch [I (tZ t u s r r.length),I 0]):=by
 have al:=(J.rt r (gp an)).1
 have bB:=X3 c1 c2 t h u hu s J af k (cD.1 an).1
 have x9:=aeB c1 c2 t u s k
 refine cK 200 3 aqv (bH rfl) ?_
 (repeat' first|simp only[TK,go_sem,bB,x9]|with_reducible first|refine aZ fun _=>?_|refine a1 ?_|fail)
 have key:∀ E:aM,([.row 1 [.t (I 0)] 1,yd E]:aj)=xT t u s r E 0:=fun E=>rfl
 rw[key]
 have xu:100<200:=by omega
 have QG:1<2:=by omega
 with_reducible refine aeC (fun i=>xT t u s r _ i) 2 (fun o=>rfl) 2 200 1 t u s r ?_ ?_ QG c1 c2 h hu J k an _ xu ?_
 ·intro i X Q hi bI
  exact agb c1 c2 t u s r h hu J al _ (by simp only[go_sem]) 1 200 i hi X Q bI
 ·intro i h q aE
  exact an5 c1 c2 t u s r _ (by simp only[go_sem]) i h q aE
 ·intro z
  unfold xT
  generalize tZ t u s r r.length=v at *
  simp only[yd,dS,ea]
  simp only[TK,go_sem]
end
theorem arb:lL Tryz.prog cX 8=some ⟨60,MR,[(6,some (true,2)),(7,none)]⟩:=by kernel_rfl
theorem apS:lL Tryz.prog cX 22=some ⟨136,Tb,[(8,none)]⟩:=by kernel_rfl
theorem awQ{e:aM}{h:aj}:cc Tryz.prog cX 8 e h (.raw (eF Tryz.prog 8 10 0))=Bk [(0,1),(1,4)] h (oZ h.length [(0,1),(1,4)] ([(.aA (.slice none 0 0)),(.aA (.slice none 0 0)),(.aA (.bool false))].map .t)):=Jg (t:=76) (by kernel_rfl) (by kernel_rfl) (by kernel_rfl) (by kernel_rfl)
theorem X5{a b lo hi:Int}(ab:1≤b)(bo:lo≤a)(ad:lo≤0)(ag:a≤hi)(aJ:0≤hi):lo≤a / b∧a / b≤hi:=by
 by_cases ae:0≤a
 ·have aT:0≤a / b:=uB ae (by omega)
  have aW:a / b≤a:=AQ _ ae
  omega
 ·have aW:a<(a / b+1)*b:=FY _ (by omega)
  have bw:a / b<0:=WT (by omega) (by omega)
  have cB:0≤(-(a / b+1))*(b-1):=s5 (by omega) (by omega)
  rw[Int.neg_mul,Int.mul_sub,Int.mul_one]at cB
  omega
def wP(u:fZ)(s:dg)(i:Nat)(x:rU):fp:=⟨(i:Nat),(x.fN:Nat),x.gH / u.g-x.gH / u.g / s.aK*s.aK,(x.op+x.dA+u.g-1) / u.g-x.gH / u.g⟩
def p4(t:bR)(u:fZ)(s:dg)(i:Nat)(r:List Nat)(k:Nat):List fp:=(iW t u s r k).map (wP u s i)
theorem afh(t:bR)(u:fZ)(s:dg)(i:Nat)(r:List Nat)(k:Nat):(p4 t u s i r k).length=k:=by simp[p4,iW]
theorem aAc(t:bR)(u:fZ)(s:dg)(i:Nat)(r:List Nat)(k:Nat):p4 t u s i r (k+1)=p4 t u s i r k++[wP u s i (ih t u s r k)]:=by simp[p4,ZS]
def pR(aK:List Int)(us:List fp)(lt:Bool)(m:Nat)(s:dg):aj:=[.row 2 [.t (.agg [gN,gN])] 0,ev 1 I aK,ev 4 e3 us,.row 3 [.agg [.ms 1 aK.length 0 aK.length 1 false,.ms 2 us.length 0 us.length 4 false,.t (B lt)]] m,.row 10 [.t (ek s)] 1]
section
variable(c1 c2:Bool)(t:bR)(u:fZ)(s:dg)(h:g0 t=true)(hu:m4 u)(J:iM t s)(af:s.cls=7)
include h hu J af
theorem agI(aK:List Int)(us:List fp)(lt:Bool)(i:Nat)(hi:i≤20)(nW:us.length≤1000)(m:Nat)(hm:m≤1)(k:Nat)(r:List Nat)(an:s.dv[k]? = some r)(fT:eY)(aR:Nat)(aw:100<aR)(R:cW→aM→aj→Prop)(e:aM)
  (he:e 0=.ref 3 1 0 0∧e 5=.t (.ip (dO c1 c2 t))∧e 6=.t (.ip [I u.g,I u.aP,I u.fW,I u.gG])∧e 7=.t (.ip (h8 s))∧e 9=.t (I (i:Nat))∧e 10=.t (I (k:Nat))∧e 40=.t (I (s.dv.length:Nat))∧e 41=.t (I (k:Nat))∧e 55=.t (.aP false 5 ((iW t u s r r.length).map mj))∧e 56=.t (I (r.length:Nat))∧e 57=.t (I 0))
  (bk:∀ e m,m≤1→(e 0=.ref 3 1 0 0∧e 5=.t (.ip (dO c1 c2 t))∧e 6=.t (.ip [I u.g,I u.aP,I u.fW,I u.gG])∧e 7=.t (.ip (h8 s))∧e 9=.t (I (i:Nat))∧e 10=.t (I (k:Nat))∧e 40=.t (I (s.dv.length:Nat))∧e 41=.t (I (k:Nat)))→R (.exit 2) e (pR aK (us++p4 t u s i r r.length) lt m s)) :
  gP 5 (some [0,5,6,7,9,10,40,41,55,56,57]) (c6 Tryz.prog cX (a0 Tryz.prog cX) fT aR 22 Tc) R aR e (pR aK us lt m s):=by
 have al:=(J.rt r (gp an)).1
 have fA:=al.cx
 have gk:=Eb t u s r r.length
 have Hz:1≤s.aK∧s.aK≤240:=by
  rcases J.iR with⟨_,p,_⟩|⟨c,_⟩
  ·exact p
  ·omega
 refine hA (iW t u s r r.length) mj (St:=fun j e ai=>(e 0=.ref 3 1 0 0∧e 5=.t (.ip (dO c1 c2 t))∧e 6=.t (.ip [I u.g,I u.aP,I u.fW,I u.gG])∧e 7=.t (.ip (h8 s))∧e 9=.t (I (i:Nat))∧e 10=.t (I (k:Nat))∧e 40=.t (I (s.dv.length:Nat))∧e 41=.t (I (k:Nat))∧e 55=.t (.aP false 5 ((iW t u s r r.length).map mj))∧e 56=.t (I (r.length:Nat))∧e 57=.t (I (j:Nat)))∧∃ m,m≤1∧ai=pR aK (us++p4 t u s i r j) lt m s)
  (Ex:=fun x e ai=>x=.exit 2∧∃ m,m≤1∧(e 0=.ref 3 1 0 0∧e 5=.t (.ip (dO c1 c2 t))∧e 6=.t (.ip [I u.g,I u.aP,I u.fW,I u.gG])∧e 7=.t (.ip (h8 s))∧e 9=.t (I (i:Nat))∧e 10=.t (I (k:Nat))∧e 40=.t (I (s.dv.length:Nat))∧e 41=.t (I (k:Nat)))∧ai=pR aK (us++p4 t u s i r r.length) lt m s) (by omega) ?_ ?_ (by omega) ⟨he,m,hm,by rw[p4,iW];simp⟩ ?_
 ·rintro j x e ai Y gn zI aU U bx aB hw ⟨⟨bE,bC,bt,dE,cM,cV,wK,wL,As,At,lv⟩,m',iE,rfl⟩ bW fl
  rw[gk]at aU aB
  have o7:x=ih t u s r j:=by
   have:(iW t u s r r.length)[j]? = some (ih t u s r j):=by simp[iW,aU]
   rw[this]at U;exact(Option.some.inj U).symm
  obtain⟨b,_,pp⟩:=Ea t u s h hu J al j aU
  have D7:=aAc t u s i r j
  rw[← o7]at b pp D7
  have qD:=b.qD
  have hB:=b.hB
  have eh:=b.eh
  have UM:=b.cx
  have tK:=b.tK
  have gH:=b.gH
  have e7:=b.e7
  obtain⟨gV,cg⟩:=hu.g
  have hlen:(us++p4 t u s i r j).length≤1010:=by rw[gT,afh];omega
  rw[D7,← fU]at bW
  generalize us++p4 t u s i r j=bp at *
  have f1:=up (Qi x.gH u.g (by omega) (by omega))
  have f2:=up (Qi (x.op+x.dA+u.g-1) u.g (by omega) (by omega))
  obtain⟨cP,dc⟩:=Hz
  have d1:=X5 (a:=x.gH) (b:=u.g) (lo:=-2000) (hi:=12800000) gV e7 (by omega) (by omega) (by omega)
  have d2:=X5 (a:=x.op+x.dA+u.g-1) (b:=u.g) (lo:=0) (hi:=20000000) gV (by omega) (by omega) (by omega) (by omega)
  have f3:=up (Qi (x.gH / u.g) s.aK (by omega) (by omega))
  have a3:x.gH / u.g / s.aK*s.aK≤x.gH / u.g:=Dc _ (by omega)
  have a7:x.gH / u.g<(x.gH / u.g / s.aK+1)*s.aK:=FY _ (by omega)
  rw[za,zb]at a7
  have cI:IntKind.i64.wrap (x.op+x.dA)=x.op+x.dA:=wrap_i64 (by omega) (by omega)
  have dZ:IntKind.i64.wrap (x.op+x.dA+u.g)=x.op+x.dA+u.g:=wrap_i64 (by omega) (by omega)
  have hE:IntKind.i64.wrap (x.op+x.dA+u.g-1)=x.op+x.dA+u.g-1:=wrap_i64 (by omega) (by omega)
  have la:IntKind.i64.wrap (x.gH / u.g / s.aK*s.aK)=x.gH / u.g / s.aK*s.aK:=wrap_i64 (by omega) (by omega)
  have vi:IntKind.i64.wrap (x.gH / u.g-x.gH / u.g / s.aK*s.aK)=x.gH / u.g-x.gH / u.g / s.aK*s.aK:=wrap_i64 (by omega) (by omega)
  have yL:IntKind.i64.wrap ((x.op+x.dA+u.g-1) / u.g-x.gH / u.g)=(x.op+x.dA+u.g-1) / u.g-x.gH / u.g:=wrap_i64 (by omega) (by omega)
  have jP:lY 4 bp.length (some (ev 4 e3 bp)):=ph
  have fr:(bp.length+1)*32≤eQ:=l9 (by omega) (by omega)
  unfold pR wP at *
  obtain⟨fN,ajW,aCI,op,dA⟩:=x
  simp only at *
  generalize (op+dA+u.g-1) / u.g=aBu at *
  generalize ajW / u.g=aBs at *
  (repeat' first|simp only[abi,Mb,go_sem,bE,bC,bt,dE,cM,cV,wK,wL,As,At,lv,aB,hw,bx,f1,f2,f3,cI,dZ,hE,la,vi,yL,jP,fr,iE,pg,pj,xp]|with_reducible first|refine aZ fun _=>?_|refine a1 ?_|fail)
  all_goals(refine bW _ _ ⟨?_,1,by omega,?_⟩)
  ·simp only[go_sem,hw,bE,bC,bt,dE,cM,cV,wK,wL,As,At]
  ·rw[← yx,gT];rfl
 ·rintro e ai Y gn aB ⟨⟨bE,bC,bt,dE,cM,cV,wK,wL,As,At,lv⟩,m',iE,rfl⟩ fl
  rw[gk]at aB lv
  simp only[abi,Mb,go_sem,bE,bC,bt,dE,cM,cV,wK,wL,As,At,lv,aB]
  all_goals(refine fl _ _ _ ⟨rfl,m',iE,?_,by rw[gk]⟩;simp only[go_sem,bE,bC,bt,dE,cM,cV,wK,wL])
 ·rintro x e ai ⟨rfl,m',iE,gl,rfl⟩
  exact bk _ m' iE gl
end
def k7(t:bR)(u:fZ)(s:dg)(i:Nat)(rs:List (List Nat)):List fp:=rs.flatMap fun r=>p4 t u s i r r.length
def tM(t:bR)(u:fZ)(s:dg)(r:List Nat):Bool:=decide (s.dl<tZ t u s r r.length+2*u.aP)
section
variable(c1 c2:Bool)(t:bR)(u:fZ)(s:dg)(h:g0 t=true)(hu:m4 u)(J:iM t s)(af:s.cls=7)
theorem afi(i:Nat):∀ rs:List (List Nat),(∀ r∈rs,r.length≤8)→(k7 t u s i rs).length≤8*rs.length:=by
 intro rs
 induction rs with
 | nil=>intro _;simp[k7]
 | cons r rs au =>
  intro al
  have:=au fun x U=>al x (by simp[U])
  have mO:=al r (by simp)
  have e:(k7 t u s i (r::rs)).length=r.length+(k7 t u s i rs).length:=by simp only[k7,C9,gT,afh]
  rw[e,jc];omega
include h hu J af
theorem agG(aK:List Int)(us:List fp)(lt:Bool)(hi:aK.length≤12)(nW:us.length≤900)(m:Nat)(hm:m≤1)(bn aR:Nat)(aw:100<aR)(Q:ah→aj→Prop)
  (bI:∀ m,m≤1→Q (.t (I 0)) (pR (aK++[s.aK]) (us++k7 t u s aK.length s.dv) (lt || s.dv.any (tM t u s)) m s)) :
  ej (inl Tryz.prog cX (a0 Tryz.prog cX) aR (bn+1) (.fn 22) [.ref 3 1 0 0,.t (fY c1 c2 t),.t (sO u),.t (ek s)] (pR aK us lt m s)) Q:=by
 have jo:=Fs t s J
 have jP:lY 1 aK.length (some (ev 1 I aK)):=ph
 have fr:(aK.length+1)*8≤eQ:=l9 (by omega) (by omega)
 refine lp apS (bH rfl) ?_
 unfold pR
 (repeat' first|simp only[Tb,go_sem,jP,fr,hm,pg,pj,yx,bJ]|with_reducible first|refine aZ fun _=>?_|refine a1 ?_|fail)
 have key:∀(us:List fp) (lt:Bool) (m:Nat),([.row 2 [.t (.agg [gN,gN])] 0,ev 1 I (aK++[s.aK]),ev 4 e3 us,.row 3 [.agg [.ms 1 (aK.length+1) 0 (aK.length+1) 1 false,.ms 2 us.length 0 us.length 4 false,.t (B lt)]] m,.row 10 [.t (ek s)] 1]:aj)=pR (aK++[s.aK]) us lt m s:=fun us lt m=>by unfold pR;rw[gT];rfl
 refine hA s.dv (fO s.n5) (St:=fun k e ai=>(e 0=.ref 3 1 0 0∧e 5=.t (.ip (dO c1 c2 t))∧e 6=.t (.ip [I u.g,I u.aP,I u.fW,I u.gG])∧e 7=.t (.ip (h8 s))∧e 9=.t (I (aK.length:Nat))∧e 40=.t (I (s.dv.length:Nat))∧e 41=.t (I (k:Nat)))∧∃ m,m≤1∧ai=pR (aK++[s.aK]) (us++k7 t u s aK.length (s.dv.take k)) (lt || (s.dv.take k).any (tM t u s)) m s)
  (Ex:=fun x e ai=>x=.exit 0∧∃ m,m≤1∧ai=pR (aK++[s.aK]) (us++k7 t u s aK.length s.dv) (lt || s.dv.any (tM t u s)) m s) (by omega) ?_ ?_ (by omega) ?_ ?_
 ·rintro k r e ai Y R zI an U bx aB hw ⟨⟨bE,bC,bt,dE,cM,wK,wL⟩,m',iE,rfl⟩ bW bk
  have al:=(J.rt r zI).1
  have bB:=up (WD c1 c2 t u s r h hu J af k U)
  have aO:=up (aga c1 c2 t u s r h hu J af k U)
  have k2:s.dv.take (k+1)=s.dv.take k++[r]:=by rw[r3,U];rfl
  have akz:k7 t u s aK.length (s.dv.take (k+1))=k7 t u s aK.length (s.dv.take k)++p4 t u s aK.length r r.length:=by rw[k2,k7,k7,List.flatMap_append];simp
  have aj1:(s.dv.take (k+1)).any (tM t u s)=((s.dv.take k).any (tM t u s) || tM t u s r):=by rw[k2,List.any_append];simp
  have jr:=afi t u s aK.length (s.dv.take k) fun r al=>(J.rt r (C7 al)).1.cx
  rw[r4]at jr
  have nh:(us++k7 t u s aK.length (s.dv.take k)).length≤1000:=by rw[gT];omega
  rw[akz,aj1,← fU,← Bool.or_assoc]at bW
  generalize us++k7 t u s aK.length (s.dv.take k)=bp at *
  generalize aBW:(lt || (s.dv.take k).any (tM t u s))=LT at *
  have hf:=fun fT R e=>agI c1 c2 t u s h hu J af (aK++[s.aK]) bp LT aK.length (by omega) nh m' iE k r U fT aR aw R e
  have gk:=Eb t u s r r.length
  have zQ:0≤tZ t u s r r.length∧tZ t u s r r.length≤100000000:=by
   obtain⟨j,aU⟩:∃ j,r.length=j+1:=⟨r.length-1,by have:=al.eh;omega⟩
   rw[aU,tZ]
   obtain⟨⟨qD,hB,eh,cx⟩,_,⟨d0,d1⟩,qE,cP⟩:=adA t u s r h hu J al j (by omega)
   unfold yh
   omega
  have cI:IntKind.i64.wrap (2*u.aP)=2*u.aP:=by have:=hu.aP;exact wrap_i64 (by omega) (by omega)
  have dZ:IntKind.i64.wrap (tZ t u s r r.length+2*u.aP)=tZ t u s r r.length+2*u.aP:=by have:=hu.aP;exact wrap_i64 (by omega) (by omega)
  unfold tM at bW
  generalize tZ t u s r r.length=ae7 at *
  have dC:(pR (aK++[s.aK]) bp LT m' s).length=5:=rfl
  (repeat' first|simp only[Td,Io,go_sem,bE,bC,bt,dE,cM,wK,wL,aB,bB,gk,dC,bJ]|with_reducible first|refine aZ fun _=>?_|refine a1 ?_|fail)
  with_reducible refine hf _ _ _ ?_ ?_
  ·simp only[go_sem,bE,bC,bt,dE,cM,wK,wL]
  ·rintro e gR iF ⟨nq,qH,ns,rJ,mx,pZ,ad7,ad8⟩
   generalize bp++p4 t u s aK.length r r.length=V at *
   generalize aE:decide (s.dl<ae7+2*u.aP)=q at *
   unfold pR at bW ⊢
   cases LT
   all_goals((repeat' first|simp only[Td,Io,go_sem,nq,qH,ns,rJ,mx,pZ,ad7,ad8,aO,cI,dZ,aE,hw,iF,xp]|with_reducible first|refine aZ fun _=>?_|refine a1 ?_|fail))
   all_goals(refine bW _ _ ⟨?_,1,by omega,?_⟩)
   all_goals(first|(simp only[go_sem,hw,nq,qH,ns,rJ,mx,ad7,ad8];done)|rfl|(simp;done))
 ·rintro e ai Y R aB ⟨⟨bE,bC,bt,dE,cM,wK,wL⟩,m',iE,rfl⟩ bk
  simp only[Td,Io,go_sem,bE,bC,bt,dE,cM,wK,wL,aB]
  all_goals(refine bk _ _ _ ⟨rfl,m',iE,by rw[s4]⟩)
 ·refine⟨?_,1,by omega,?_⟩
  ·simp only[go_sem,bJ]
  ·rw[← key];simp[k7]
 ·rintro x e ai ⟨rfl,m',iE,rfl⟩
  simp only[Tb,go_sem]
  all_goals exact bI m' iE
end
def po(t:bR)(u:fZ)(q:b7 × Bool)(s:dg):b7 × Bool:=if s.cls=7 then(⟨q.1.aK++[s.aK],q.1.dr++k7 t u s q.1.aK.length s.dv⟩,q.2 || s.dv.any (tM t u s))else q
def b2(t:bR)(u:fZ)(l:List dg):b7 × Bool:=l.foldl (po t u) (⟨[],[]⟩,false)
theorem Va(t:bR)(u:fZ)(l:List dg)(s:dg):b2 t u (l++[s])=po t u (b2 t u l) s:=by simp[b2]
def wq(t:bR)(u:fZ)(l:List dg):T:=if kS (b2 t u l).1 (b2 t u l).2=0 then .ch [g1 false false (b2 t u l).1,I 0]else .ch [.agg [gN,gN],I (kS (b2 t u l).1 (b2 t u l).2)]
def Ec(q:b7 × Bool)(m:Nat):aj:=[.row 2 [.t (.agg [gN,gN])] 0,ev 1 I q.1.aK,ev 4 e3 q.1.dr,.row 3 [.agg [.ms 1 q.1.aK.length 0 q.1.aK.length 1 false,.ms 2 q.1.dr.length 0 q.1.dr.length 4 false,.t (B q.2)]] m]
section
variable(t:bR)(u:fZ)(h:g0 t=true)(hu:m4 u)
include h hu
theorem aAf{s:dg}(J:iM t s)(af:s.cls=7)(i:Nat){r:List Nat}(al:hS t r){k:Nat}(an:k<r.length):let x:=wP u s i (ih t u s r k);x.str=(i:Nat)∧(0≤x.port∧x.port<((2*t.cd.length:Nat):Int))∧(0≤x.ec∧x.ec<s.aK)∧1≤x.kr∧∃ p∈r,x.port=(p:Nat):=by
 obtain⟨b,U,pp⟩:=Ea t u s h hu J al k an
 have Hz:1≤s.aK:=by
  rcases J.iR with⟨_,p,_⟩|⟨c,_⟩
  ·exact p.1
  ·omega
 obtain⟨gV,cg⟩:=hu.g
 have eh:=b.eh
 have tK:=b.tK
 have gH:=b.gH
 simp only[wP]
 generalize ih t u s r k=x at *
 have a3:x.gH / u.g / s.aK*s.aK≤x.gH / u.g:=Dc _ (by omega)
 have a7:x.gH / u.g<(x.gH / u.g / s.aK+1)*s.aK:=FY _ (by omega)
 rw[za,zb]at a7
 have cz:x.gH / u.g*u.g≤x.gH:=Dc _ (by omega)
 have eJ:x.gH / u.g+1≤(x.op+x.dA+u.g-1) / u.g:=Int.le_ediv_of_mul_le (by omega) (by rw[za,zb];omega)
 exact⟨by first|rfl|trivial,⟨by omega,by omega⟩,⟨by omega,by omega⟩,by omega,x.fN,gp U,by first|rfl|trivial⟩
omit h hu in
theorem aAd{s:dg}{i:Nat}{rs:List (List Nat)}{x:fp}(U:x∈k7 t u s i rs):∃ r∈rs,∃ k,k<r.length∧x=wP u s i (ih t u s r k):=by
 simp only[k7,p4,iW,O1,nE,vv]at U
 obtain⟨r,al,y,⟨k,an,rfl⟩,rfl⟩:=U
 exact⟨r,al,k,an,rfl⟩
structure E1(t:bR)(n:Nat)(q:b7):Prop where
 pl:q.aK.length≤n
 aK:∀ x∈q.aK,1≤x∧x≤240
 us:∀ x∈q.dr,(0≤x.str∧x.str<q.aK.length)∧(0≤x.port∧x.port<((2*t.cd.length:Nat):Int))∧(0≤x.ec∧x.ec<bT q x.str)∧1≤x.kr
 ul:q.dr.length≤16*n
omit h hu in
theorem Vo(q:b7)(y:Int)(us:List fp){s:Int}(J:0≤s∧s<q.aK.length):bT ⟨q.aK++[y],us⟩ s=bT q s:=by
 unfold bT
 rw[fv (by omega)]
omit h hu in
theorem au5(q:b7)(y:Int)(us:List fp):bT ⟨q.aK++[y],us⟩ (q.aK.length:Nat)=y:=by
 unfold bT
 rw[ld];simp
theorem aum{n:Nat}{q:b7 × Bool}(aE:E1 t n q.1){s:dg}(J:iM t s):E1 t (n+1) (po t u q s).1:=by
 obtain⟨ad,ag,aJ,bL⟩:=aE
 unfold po
 split
 ·rename_i af
  have Hz:1≤s.aK∧s.aK≤240:=by
   rcases J.iR with⟨_,p,_⟩|⟨c,_⟩
   ·exact p
   ·omega
  have jo:=Fs t s J
  refine⟨by simp only[gT,vy];omega,fun x U=>?_,fun x U=>?_,?_⟩
  ·rcases hp.1 U with U|U
   ·exact ag x U
   ·simp only[kA]at U;subst U;exact Hz
  ·rcases hp.1 U with U|U
   ·obtain⟨a,b,c,d⟩:=aJ x U
    refine⟨⟨a.1,by simp only[gT,vy];omega⟩,b,?_,d⟩
    rw[Vo q.1 s.aK _ a];exact c
   ·obtain⟨r,al,k,an,rfl⟩:=aAd t u U
    obtain⟨aT,aW,bw,cB,_⟩:=aAf t u h hu J af q.1.aK.length (J.rt r al).1 an
    refine⟨⟨by rw[aT];omega,by rw[aT];simp only[gT,vy];omega⟩,aW,?_,cB⟩
    rw[aT,au5];exact bw
  ·have:=afi t u s q.1.aK.length s.dv fun r al=>(J.rt r al).1.cx
   simp only[gT];omega
 ·exact⟨by omega,ag,aJ,by omega⟩
theorem adC{l:List dg}(J:∀ s∈l,iM t s):∀ i,i≤l.length→E1 t i (b2 t u (l.take i)).1:=by
 intro i
 induction i with
 | zero=>intro _;exact⟨by simp[b2],fun x U=>by simp[b2]at U,fun x U=>by simp[b2]at U,by simp[b2]⟩
 | succ i au =>
  intro hi
  have U:l[i]? = some l[i]:=fC (by omega)
  rw[r3,U]
  show E1 t (i+1) (b2 t u (l.take i++[l[i]])).1
  rw[Va]
  exact aum t u h hu (au (by omega)) (J _ (oP _))
theorem U9{l:List dg}(J:∀ s∈l,iM t s):E1 t l.length (b2 t u l).1:=by
 have:=adC t u h hu J l.length (bP _)
 rwa[s4]at this
omit h hu in
theorem aul{n:Nat}(aw:n≤12){q:b7}(aE:E1 t n q):P0 q:=⟨by have:=aE.pl;omega,aE.aK,fun x U=>(aE.us x U).1,by have:=aE.ul;omega⟩
theorem AJ(c1 c2 c:Bool)(l:List dg)(ao:l.length≤12)(J:∀ s∈l,iM t s)(aw:∀(i j:Nat) (a b:dg),l[i]? = some a→l[j]? = some b→i<j→a.id≠b.id) :
  a0 Tryz.prog cX 8 [fY c1 c2 t,sO u,.aP c 10 (l.map ek)]=some (wq t u l):=by
 have bB:=up (axL c1 c2 t h)
 have aO:=up (aeA u hu)
 have ed:=up (axM c1 c2 c t h l ao J aw)
 refine cK 200 5 arb (bH rfl) ?_
 (repeat' first|simp only[MR,go_sem,bB,aO,ed,awQ,bJ]|with_reducible first|refine aZ fun _=>?_|refine a1 ?_|fail)
 refine hA l ek (St:=fun i e h=>(e 3=.t (.ip (dO c1 c2 t))∧e 4=.t (.ip [I u.g,I u.aP,I u.fW,I u.gG])∧e 6=.ref 0 1 0 0∧e 11=.ref 3 1 0 0∧e 35=.t (.aP c 10 (l.map ek))∧e 36=.t (I (l.length:Nat))∧e 37=.t (I (i:Nat)))∧∃ m,m≤1∧h=Ec (b2 t u (l.take i)) m)
  (Ex:=fun x e h=>x=.exit 0∧(e 6=.ref 0 1 0 0∧e 11=.ref 3 1 0 0)∧∃ m,m≤1∧h=Ec (b2 t u l) m) (by omega) ?_ ?_ (by omega) ?_ ?_
 ·rintro i s e ai Y R hm hi U bx aB hw ⟨⟨a8,cY,bt,di,Cz,CA,wJ⟩,m,h5,rfl⟩ bW bk
  have k2:l.take (i+1)=l.take i++[s]:=by rw[r3,U];rfl
  have bK:=adC t u h hu J i (by omega)
  rw[k2,Va]at bW
  generalize b2 t u (l.take i)=q at *
  have iG:=bK.pl
  have jr:=bK.ul
  obtain⟨⟨aK,us⟩,lt⟩:=q
  simp only at iG jr
  by_cases af:s.cls=7
  ·have d:decide (s.cls=7)=true:=bY af
   have aS:po t u (⟨aK,us⟩,lt) s=(⟨aK++[s.aK],us++k7 t u s aK.length s.dv⟩,lt || s.dv.any (tM t u s)):=by unfold po;rw[a6 af]
   rw[aS]at bW
   unfold Ec
   simp only[MS,EJ,go_sem,a8,cY,bt,di,Cz,CA,wJ,aB,hw,bx,d]
   have key:([.row 2 [.t (.agg [gN,gN])] 0,ev 1 I aK,ev 4 e3 us,.row 3 [.agg [.ms 1 aK.length 0 aK.length 1 false,.ms 2 us.length 0 us.length 4 false,.t (B lt)]] m,.row 10 [.t (ek s)] 1]:aj)=pR aK us lt m s:=rfl
   rw[key]
   have xu:100<200:=by omega
   with_reducible refine agG c1 c2 t u s h hu (J s hm) af aK us lt (by omega) (by omega) m h5 4 200 xu _ ?_
   intro gR iF
   generalize us++k7 t u s aK.length s.dv=aDi at *
   generalize (lt || s.dv.any (tM t u s))=UU at *
   generalize aK++[s.aK]=aCY at *
   unfold pR
   unfold Ec at bW
   (repeat' first|simp only[MS,EJ,go_sem,a8,cY,bt,di,Cz,CA,wJ,hw,xp]|with_reducible first|refine aZ fun _=>?_|refine a1 ?_|fail)
   all_goals(refine bW _ _ ⟨?_,gR,iF,rfl⟩;simp only[go_sem,a8,cY,bt,di,Cz,CA,hw])
  ·have d:decide (s.cls=7)=false:=bA af
   have aS:po t u (⟨aK,us⟩,lt) s=(⟨aK,us⟩,lt):=by unfold po;rw[a2 af]
   rw[aS]at bW
   unfold Ec at bW ⊢
   simp only[MS,EJ,go_sem,a8,cY,bt,di,Cz,CA,wJ,aB,hw,bx,d,xp]
   all_goals(refine bW _ _ ⟨?_,m,h5,rfl⟩;simp only[go_sem,a8,cY,bt,di,Cz,CA,hw])
 ·rintro e ai Y R aB ⟨⟨a8,cY,bt,di,Cz,CA,wJ⟩,m,h5,rfl⟩ bk
  simp only[MS,EJ,go_sem,a8,cY,bt,di,Cz,CA,wJ,aB]
  all_goals(refine bk _ _ _ ⟨rfl,?_,m,h5,by rw[s4]⟩;simp only[go_sem,bt,di])
 ·refine⟨?_,0,by omega,rfl⟩
  simp only[go_sem,bJ]
 ·rintro x e ai ⟨rfl,⟨bt,di⟩,m,h5,rfl⟩
  have bK:=U9 t u h hu J
  have gb:=fun lt=>Gq (f:=23) rfl (.check false false lt (b2 t u l).1 (aul t ao bK))
  unfold wq
  generalize b2 t u l=q at *
  obtain⟨⟨aK,us⟩,lt⟩:=q
  have lT:=gb lt
  simp only at lT ⊢
  generalize kS ⟨aK,us⟩ lt=kD at *
  have jP:lY 1 aK.length (some (ev 1 I aK)):=ph
  have MX:lY 4 us.length (some (ev 4 e3 us)):=ph
  unfold Ec
  by_cases bl:kD=0
  ·have d:decide (kD=0)=true:=bY bl
   rw[a6 bl]
   simp only[MR,go_sem,bt,di,lT,d,jP,MX,h5,pg,pj]
  ·have d:decide (kD=0)=false:=bA bl
   rw[a2 bl]
   simp only[MR,go_sem,bt,di,lT,d,jP,MX,h5,pg,pj]
end
def jG:Option Bool→List Int→T
 | some c,o=>.aP c 1 (o.map I)
 | none,_=>gN
structure hn where
 fN:Nat
 bQ:Int
 dA:Int
 e0:Int
abbrev qP(w:hn):T:=.agg [I (w.fN:Nat),I w.bQ,I w.dA,I w.e0]
def qO(u:fZ)(s:dg)(x:Int)(y:rU):hn:=⟨y.fN,y.op+x*u.g,y.dA,s.aK*u.g⟩
def CS(t:bR)(u:fZ)(s:dg)(x:Int)(r:List Nat):List hn:=(iW t u s r r.length).map (qO u s x)
def lA(t:bR)(u:fZ):List dg→List Int→List hn
 | [],_=>[]
 | s::l,o=>if s.cls=7 then match o with
   | []=>[]
   | x::o=>s.dv.flatMap (CS t u s x)++lA t u l o
  else lA t u l o
theorem Wj(t:bR)(u:fZ){s:dg}(h:s.cls=7)(l:List dg)(x:Int)(o:List Int):lA t u (s::l) (x::o)=s.dv.flatMap (CS t u s x)++lA t u l o:=by simp only[lA];rw[a6 h]
theorem Wi(t:bR)(u:fZ){s:dg}(h:¬ s.cls=7)(l:List dg)(o:List Int):lA t u (s::l) o=lA t u l o:=by
 cases o<;>(simp only[lA];rw[a2 h])
def oJ(l:List dg):Nat:=(l.filter fun s=>decide (s.cls=7)).length
theorem aqE:lL Tryz.prog cX 56=some ⟨73,TM,[]⟩:=by kernel_rfl
theorem ajM{α:Type}{W:List α}{m:Nat}{w:α}{r:List α}(h:W.drop m=w::r):W[m]? = some w∧W.drop (m+1)=r:=by
 refine⟨by rw[← List.head?_drop,h];rfl,?_⟩
 rw[← Kd,h];rfl
section
variable(av:Nat→aj)(N:Nat)(bG:∀ s,(av s).length=N)(bn aR nZ:Nat)(t:bR)(u:fZ)(W:List hn)
 (ar:∀(i:Nat) (w:hn) (X:aj) (Q:ah→aj→Prop),W[i]? = some w→(∀ cw,Q (.t (B true)) (av (i+1)++X++cw))→ej (inl Tryz.prog cX (a0 Tryz.prog cX) aR bn (.bF nZ) [.t (qP w)] (av i++X)) Q)
 (fm:∀(s:Nat) (h:aj) (q:Nat),N≤q→b5 (dk h (bV q)) (av s)=some (av s)) (qm:nZ<N)
include bG ar fm qm
theorem aAU(c:Bool)(co:Option Bool)(h:g0 t=true)(hu:m4 u)(l:List dg)(o:List Int)(s:dg)(J:iM t s)(af:s.cls=7)(x:Int)(U:0≤x∧x<240)(c1 c2:Bool)(k:Nat)(r:List Nat)(an:s.dv[k]? = some r)(i n m:Nat)(rest:List hn)(hQ:W.drop m=CS t u s x r++rest)(Ly:100<aR)(R:cW→aM→aj→Prop)(e:aM)
  (he:e 0=.bF nZ∧e 2=.t (.ip [jG co o])∧e 3=.t (.ip (dO c1 c2 t))∧e 4=.t (.ip [I u.g,I u.aP,I u.fW,I u.gG])∧e 6=.t (I (n:Nat))∧e 8=.ref N 1 0 0∧e 9=.t (I x)∧e 15=.t (.aP c 10 (l.map ek))∧e 16=.t (I (l.length:Nat))∧e 17=.t (I (i:Nat))∧e 32=.t (I (s.dv.length:Nat))∧e 33=.t (I (k:Nat))∧e 44=.t (.aP false 5 ((iW t u s r r.length).map mj))∧e 45=.t (I (r.length:Nat))∧e 46=.t (I 0))
  (bk:∀ e m,W.drop m=rest→(e 0=.bF nZ∧e 2=.t (.ip [jG co o])∧e 3=.t (.ip (dO c1 c2 t))∧e 4=.t (.ip [I u.g,I u.aP,I u.fW,I u.gG])∧e 6=.t (I (n:Nat))∧e 8=.ref N 1 0 0∧e 9=.t (I x)∧e 15=.t (.aP c 10 (l.map ek))∧e 16=.t (I (l.length:Nat))∧e 17=.t (I (i:Nat))∧e 32=.t (I (s.dv.length:Nat))∧e 33=.t (I (k:Nat)))→R (.exit 4) e (av m++[.row 10 [.t (ek s)] 1])) :
  gP (N+1) (some [0,2,3,4,6,8,9,15,16,17,32,33,44,45,46]) (c6 Tryz.prog cX (a0 Tryz.prog cX) (inl Tryz.prog cX (a0 Tryz.prog cX) aR bn) aR 56 TN) R aR e (av m++[.row 10 [.t (ek s)] 1]):=by
 have al:=(J.rt r (gp an)).1
 have fA:=al.cx
 have gk:=Eb t u s r r.length
 have tk:∀(s:Nat) (x:a9) (Y:aj),(av s++(x::Y))[N]? = some x:=fun s x Y=>by rw[g5 (by rw[bG];omega),bG,nC];rfl
 have K6:∀(s:Nat) (x y:a9) (Y:aj),(av s++(x::y::Y))[N+1]? = some y:=fun s x y Y=>by rw[g5 (by rw[bG];omega),bG,show N+1-N=1 by omega];rfl
 have NT:∀(s:Nat) (x y z:a9) (Y:aj),(av s++x::y::Y).set (N+1) z=av s++x::z::Y:=fun s x y z Y=>by rw[uz,a2 (by rw[bG];omega),bG,show N+1-N=1 by omega];rfl
 have pL:∀(s:Nat) (x:a9) (Y:aj),(av s++x::Y).take (N+1)=av s++[x]:=fun s x Y=>by rw[y3,bG,l8 (by rw[bG];omega),show N+1-N=1 by omega];rfl
 have vM:∀(j:Nat) (U:aj),b5 (dk U (bV (N+1))) (av j++[.row 10 [.t (ek s)] 1])=some (av j++[.row 10 [.t (ek s)] 1]):=fun j U=>Nc _ _ _ _ (fm j U (N+1) (by omega)) (by simp[b5,dk,dw,cL])
 have hlen:∀(s:Nat) (Y:aj),(av s++Y).length=N+Y.length:=fun s Y=>by simp[bG]
 have f2:decide (N+1≤nZ)=false:=bA (by omega)
 have f3:decide (N+1≤N)=false:=bA (by omega)
 have f4:∀ k,N+1<N+(k+1+1):=fun k=>by omega
 refine hA (iW t u s r r.length) mj (St:=fun j e ai=>∃ m,(e 0=.bF nZ∧e 2=.t (.ip [jG co o])∧e 3=.t (.ip (dO c1 c2 t))∧e 4=.t (.ip [I u.g,I u.aP,I u.fW,I u.gG])∧e 6=.t (I (n:Nat))∧e 8=.ref N 1 0 0∧e 9=.t (I x)∧e 15=.t (.aP c 10 (l.map ek))∧e 16=.t (I (l.length:Nat))∧e 17=.t (I (i:Nat))∧e 32=.t (I (s.dv.length:Nat))∧e 33=.t (I (k:Nat))∧e 44=.t (.aP false 5 ((iW t u s r r.length).map mj))∧e 45=.t (I (r.length:Nat))∧e 46=.t (I (j:Nat)))∧W.drop m=((iW t u s r r.length).drop j).map (qO u s x)++rest∧ai=av m++[.row 10 [.t (ek s)] 1])
  (Ex:=fun q e ai=>∃ m,W.drop m=rest∧q=.exit 4∧(e 0=.bF nZ∧e 2=.t (.ip [jG co o])∧e 3=.t (.ip (dO c1 c2 t))∧e 4=.t (.ip [I u.g,I u.aP,I u.fW,I u.gG])∧e 6=.t (I (n:Nat))∧e 8=.ref N 1 0 0∧e 9=.t (I x)∧e 15=.t (.aP c 10 (l.map ek))∧e 16=.t (I (l.length:Nat))∧e 17=.t (I (i:Nat))∧e 32=.t (I (s.dv.length:Nat))∧e 33=.t (I (k:Nat)))∧ai=av m++[.row 10 [.t (ek s)] 1]) (by omega) ?_ ?_ (by omega) ⟨m,he,by rw[hQ,l6];rfl,rfl⟩ ?_
 ·rintro j y e ai Y gn hm aU ko bx aB hw ⟨m,⟨bE,s2,a8,cY,bt,dG,cM,j5,im,lu,p1,p2,oI,pn,Jt⟩,jK,rfl⟩ bW fl
  rw[gk]at aU aB
  have aoQ:y=ih t u s r j:=by
   have:(iW t u s r r.length)[j]? = some (ih t u s r j):=by simp[iW,aU]
   rw[this]at ko;exact(Option.some.inj ko).symm
  obtain⟨b,_,pp⟩:=Ea t u s h hu J al j aU
  rw[← aoQ]at b pp
  have qD:=b.qD
  have hB:=b.hB
  have eh:=b.eh
  have UM:=b.cx
  obtain⟨gV,Qy⟩:=hu.g
  have zD:j<(iW t u s r r.length).length:=by rw[gk];exact aU
  have pP:(iW t u s r r.length).drop j=y::(iW t u s r r.length).drop (j+1):=by
   rw[drop_cons zD]
   congr 1
   exact Option.some.inj ((fC zD).symm.trans ko)
  rw[pP,gz,dS]at jK
  obtain⟨QW,amv⟩:=ajM jK
  have aoO:0≤x*u.g∧x*u.g≤240*10000:=⟨s5 U.1 (by omega),uo (by omega) (by omega) (by omega) (by omega)⟩
  have aCr:0≤s.aK*u.g∧s.aK*u.g≤240*10000:=by
   have Hz:1≤s.aK∧s.aK≤240:=by
    rcases J.iR with⟨_,p,_⟩|⟨c,_⟩
    ·exact p
    ·omega
   exact⟨s5 (by omega) (by omega),uo (by omega) (by omega) (by omega) (by omega)⟩
  have cI:IntKind.i64.wrap (x*u.g)=x*u.g:=wrap_i64 (by omega) (by omega)
  have dZ:IntKind.i64.wrap (y.op+x*u.g)=y.op+x*u.g:=wrap_i64 (by omega) (by omega)
  have hE:IntKind.i64.wrap (s.aK*u.g)=s.aK*u.g:=wrap_i64 (by omega) (by omega)
  have m7:=ar m (qO u s x y) [.row 10 [.t (ek s)] 1,.row 5 [.t (mj y)] 1]
  unfold qO at m7 QW
  obtain⟨fN,gH,tK,op,dA⟩:=y
  simp only at m7 QW cI dZ hE
  (repeat' first|simp only[TO,IA,go_sem,bE,s2,a8,cY,bt,dG,cM,j5,im,lu,p1,p2,oI,pn,Jt,aB,bx,zD,cI,dZ,hE,bG,hlen,tk,K6,NT,gk,fU,bJ]|with_reducible first|refine aZ fun _=>?_|refine a1 ?_|fail)
  all_goals(with_reducible refine m7 _ QW ?_)
  all_goals intro cw
  simp only[TO,IA,go_sem,bE,s2,a8,cY,bt,dG,cM,j5,im,lu,p1,p2,oI,pn,Jt,hw,bG,hlen,fU,f4,pL,vM,f2,f3,qd]
  all_goals(refine bW _ _ ⟨m+1,?_,amv,rfl⟩;simp only[go_sem,bE,s2,a8,cY,bt,dG,cM,j5,im,lu,p1,p2,oI,pn,hw,f2,f3,qd])
 ·rintro e ai Y gn aB ⟨m,⟨bE,s2,a8,cY,bt,dG,cM,j5,im,lu,p1,p2,oI,pn,Jt⟩,jK,rfl⟩ fl
  rw[gk]at aB Jt
  rw[y5 (bP _)]at jK
  simp only[TO,IA,go_sem,bE,s2,a8,cY,bt,dG,cM,j5,im,lu,p1,p2,oI,pn,Jt,aB]
  all_goals(refine fl _ _ _ ⟨m,jK,rfl,?_,rfl⟩;simp only[go_sem,bE,s2,a8,cY,bt,dG,cM,j5,im,lu,p1,p2])
 ·rintro q e ai ⟨m,jK,rfl,gl,rfl⟩
  exact bk e m jK gl
end
section
variable(av:Nat→aj)(N:Nat)(bG:∀ s,(av s).length=N)(bn aR nZ:Nat)(t:bR)(u:fZ)(W:List hn)
 (ar:∀(i:Nat) (w:hn) (X:aj) (Q:ah→aj→Prop),W[i]? = some w→(∀ cw,Q (.t (B true)) (av (i+1)++X++cw))→ej (inl Tryz.prog cX (a0 Tryz.prog cX) aR bn (.bF nZ) [.t (qP w)] (av i++X)) Q)
 (fm:∀(s:Nat) (h:aj) (q:Nat),N≤q→b5 (dk h (bV q)) (av s)=some (av s)) (qm:nZ<N)
include bG ar fm qm
theorem aAX(c:Bool)(co:Option Bool)(h:g0 t=true)(hu:m4 u)(l:List dg)(o:List Int)(s:dg)(J:iM t s)(af:s.cls=7)(x:Int)(U:0≤x∧x<240)(c1 c2:Bool)(i n m:Nat)(rest:List hn)(hQ:W.drop m=s.dv.flatMap (CS t u s x)++rest)(Ly:100<aR)(R:cW→aM→aj→Prop)(e:aM)
  (he:e 0=.bF nZ∧e 2=.t (.ip [jG co o])∧e 3=.t (.ip (dO c1 c2 t))∧e 4=.t (.ip [I u.g,I u.aP,I u.fW,I u.gG])∧e 6=.t (I (n:Nat))∧e 8=.ref N 1 0 0∧e 9=.t (I x)∧e 15=.t (.aP c 10 (l.map ek))∧e 16=.t (I (l.length:Nat))∧e 17=.t (I (i:Nat))∧e 32=.t (I (s.dv.length:Nat))∧e 33=.t (I 0))
  (bk:∀ e m,W.drop m=rest→(e 0=.bF nZ∧e 2=.t (.ip [jG co o])∧e 3=.t (.ip (dO c1 c2 t))∧e 4=.t (.ip [I u.g,I u.aP,I u.fW,I u.gG])∧e 6=.t (I (n:Nat))∧e 15=.t (.aP c 10 (l.map ek))∧e 16=.t (I (l.length:Nat))∧e 17=.t (I (i:Nat)))→R (.exit 2) e (av m++[.row 10 [.t (ek s)] 1])) :
  gP (N+1) (some [0,2,3,4,6,8,9,15,16,17,32,33]) (c6 Tryz.prog cX (a0 Tryz.prog cX) (inl Tryz.prog cX (a0 Tryz.prog cX) aR bn) aR 56 TP) R aR e (av m++[.row 10 [.t (ek s)] 1]):=by
 have jo:=Fs t s J
 have tk:∀(s:Nat) (x:a9) (Y:aj),(av s++(x::Y))[N]? = some x:=fun s x Y=>by rw[g5 (by rw[bG];omega),bG,nC];rfl
 have pL:∀(s:Nat) (x:a9) (Y:aj),(av s++x::Y).take (N+1)=av s++[x]:=fun s x Y=>by rw[y3,bG,l8 (by rw[bG];omega),show N+1-N=1 by omega];rfl
 have hlen:∀(s:Nat) (Y:aj),(av s++Y).length=N+Y.length:=fun s Y=>by simp[bG]
 refine hA s.dv (fO s.n5) (St:=fun k e ai=>∃ m,(e 0=.bF nZ∧e 2=.t (.ip [jG co o])∧e 3=.t (.ip (dO c1 c2 t))∧e 4=.t (.ip [I u.g,I u.aP,I u.fW,I u.gG])∧e 6=.t (I (n:Nat))∧e 8=.ref N 1 0 0∧e 9=.t (I x)∧e 15=.t (.aP c 10 (l.map ek))∧e 16=.t (I (l.length:Nat))∧e 17=.t (I (i:Nat))∧e 32=.t (I (s.dv.length:Nat))∧e 33=.t (I (k:Nat)))∧W.drop m=(s.dv.drop k).flatMap (CS t u s x)++rest∧ai=av m++[.row 10 [.t (ek s)] 1])
  (Ex:=fun q e ai=>∃ m,W.drop m=rest∧q=.exit 2∧(e 0=.bF nZ∧e 2=.t (.ip [jG co o])∧e 3=.t (.ip (dO c1 c2 t))∧e 4=.t (.ip [I u.g,I u.aP,I u.fW,I u.gG])∧e 6=.t (I (n:Nat))∧e 15=.t (.aP c 10 (l.map ek))∧e 16=.t (I (l.length:Nat))∧e 17=.t (I (i:Nat)))∧ai=av m++[.row 10 [.t (ek s)] 1]) (by omega) ?_ ?_ (by omega) ⟨m,he,by rw[l6];exact hQ,rfl⟩ ?_
 ·rintro k r e ai Y gn hm an Sk bx aB hw ⟨m,⟨bE,s2,a8,cY,bt,dG,cM,j5,im,lu,p1,p2⟩,jK,rfl⟩ bW fl
  have al:=(J.rt r hm).1
  have bB:=up (WD c1 c2 t u s r h hu J af k Sk)
  have gk:=Eb t u s r r.length
  have pP:s.dv.drop k=r::s.dv.drop (k+1):=by
   rw[drop_cons an]
   congr 1
   exact Option.some.inj ((fC an).symm.trans Sk)
  rw[pP,C9,fU]at jK
  have hf:=fun R e=>aAU av N bG bn aR nZ t u W ar fm qm c co h hu l o s J af x U c1 c2 k r Sk i n m _ jK Ly R e
  (repeat' first|simp only[TQ,IB,go_sem,bE,s2,a8,cY,bt,dG,cM,j5,im,lu,p1,p2,aB,tk,bB,gk,hlen,bJ]|with_reducible first|refine aZ fun _=>?_|refine a1 ?_|fail)
  with_reducible refine hf _ _ ?_ ?_
  ·simp only[go_sem,bE,s2,a8,cY,bt,dG,cM,j5,im,lu,p1,p2]
  ·rintro e gR QV ⟨nq,b3,cG,nr,ns,sN,mx,wE,wF,An,ad6,av0⟩
   simp only[TQ,IB,go_sem,nq,b3,cG,nr,ns,sN,mx,wE,wF,An,ad6,av0,hw,hlen]
   all_goals(refine bW _ _ ⟨gR,?_,QV,rfl⟩;simp only[go_sem,nq,b3,cG,nr,ns,sN,mx,wE,wF,An,ad6,hw])
 ·rintro e ai Y gn aB ⟨m,⟨bE,s2,a8,cY,bt,dG,cM,j5,im,lu,p1,p2⟩,jK,rfl⟩ fl
  rw[y5 (bP _)]at jK
  simp only[TQ,IB,go_sem,bE,s2,a8,cY,bt,dG,cM,j5,im,lu,p1,p2,aB]
  all_goals(refine fl _ _ _ ⟨m,jK,rfl,?_,rfl⟩;simp only[go_sem,bE,s2,a8,cY,bt,j5,im,lu])
 ·rintro q e ai ⟨m,jK,rfl,gl,rfl⟩
  exact bk e m jK gl
theorem afr(c:Bool)(co:Option Bool)(h:g0 t=true)(hu:m4 u)(l:List dg)(ao:l.length≤12)(J:∀ s∈l,iM t s)(o:List Int)(aC:∀ x∈o,0≤x∧x<240)(qn:oJ l=o.length)(pO:co=none→o=[])(c1 c2:Bool)(hQ:W=lA t u l o)(Ly:100<aR)(Q:ah→aj→Prop)(bI:∀ m,W.drop m=[]→Q (.t (.ch [])) (av m)) :
  ej (inl Tryz.prog cX (a0 Tryz.prog cX) aR (bn+1) (.fn 56) [.bF nZ,.t (.ip [.aP c 10 (l.map ek)]),.t (.ip [jG co o]),.t (.ip (dO c1 c2 t)),.t (.ip [I u.g,I u.aP,I u.fW,I u.gG])] (av 0)) Q:=by
 have tk:∀(s:Nat) (x:a9) (Y:aj),(av s++(x::Y))[N]? = some x:=fun s x Y=>by rw[g5 (by rw[bG];omega),bG,nC];rfl
 have Au:∀(s:Nat) (x z:a9) (Y:aj),(av s++x::Y).set N z=av s++z::Y:=fun s x z Y=>by rw[uz,a2 (by rw[bG];omega),bG,nC];rfl
 have pL:∀(s:Nat) (Y:aj),(av s++Y).take N=av s:=fun s Y=>by rw[y3,bG,l8 (by rw[bG];omega)];simp
 have vM:∀(s:Nat) (U:aj),b5 (dk U (bV N)) (av s)=some (av s):=fun s U=>fm s U N (bP _)
 have hlen:∀(s:Nat) (Y:aj),(av s++Y).length=N+Y.length:=fun s Y=>by simp[bG]
 have f2:decide (N≤nZ)=false:=bA (by omega)
 have f4:∀ k,N<N+(k+1):=fun k=>by omega
 refine lp aqE (bH rfl) ?_
 simp only[TM,go_sem,bG,bJ]
 refine hA l ek (St:=fun i e ai=>∃ n m:Nat,(e 0=.bF nZ∧e 2=.t (.ip [jG co o])∧e 3=.t (.ip (dO c1 c2 t))∧e 4=.t (.ip [I u.g,I u.aP,I u.fW,I u.gG])∧e 6=.t (I (n:Nat))∧e 15=.t (.aP c 10 (l.map ek))∧e 16=.t (I (l.length:Nat))∧e 17=.t (I (i:Nat)))∧W.drop m=lA t u (l.drop i) (o.drop n)∧n+oJ (l.drop i)=o.length∧ai=av m)
  (Ex:=fun q e ai=>q=.exit 0∧∃ m,W.drop m=[]∧ai=av m) (by omega) ?_ ?_ (by omega) ?_ ?_
 ·rintro i s e ai Y gn hm hi U bx aB hw ⟨n,m,⟨bE,s2,a8,cY,bt,j5,im,lu⟩,jK,jn,rfl⟩ bW fl
  have pP:l.drop i=s::l.drop (i+1):=by
   rw[drop_cons hi]
   congr 1
   exact Option.some.inj ((fC hi).symm.trans U)
  rw[pP]at jK jn
  by_cases af:s.cls=7
  ·have d:decide (s.cls=7)=true:=bY af
   have HC:oJ (s::l.drop (i+1))=oJ (l.drop (i+1))+1:=by simp[oJ,af]
   rw[HC]at jn
   have fg:n<o.length:=by omega
   obtain⟨ki,rfl⟩:∃ ki,co=some ki:=by
    cases co with
    | none=>rw[pO rfl]at fg;simp at fg
    | some ki=>exact⟨ki,rfl⟩
   have LB:jG (some ki) o=.aP ki 1 (o.map I):=rfl
   have Sj:o[n]? = some o[n]:=fC fg
   have anY:o.drop n=o[n]::o.drop (n+1):=drop_cons fg
   have HM:=aC _ (oP fg)
   generalize o[n]=x at *
   rw[anY,Wj t u af]at jK
   have ou:(o.map I)[n]? = some (I x):=by rw[eE,Sj];rfl
   have cI:IntKind.i64.wrap ((n:Nat)+1:Int)=((n+1:Nat):Int):=wrap_i64 (by have:oJ l≤l.length:=AR _ _;omega) (by have:oJ l≤l.length:=AR _ _;omega)
   have hf:=fun R e=>aAX av N bG bn aR nZ t u W ar fm qm c (some ki) h hu l o s (J s hm) af x HM c1 c2 i (n+1) m _ jK Ly R e
   (repeat' first|simp only[Mz,ED,go_sem,bE,s2,a8,cY,bt,j5,im,lu,aB,bx,hi,fg,ou,cI,d,LB,tk,Au,bG,hlen,fU,bJ]|with_reducible first|refine aZ fun _=>?_|refine a1 ?_|fail)
   with_reducible refine hf _ _ ?_ ?_
   ·simp only[go_sem,bE,s2,a8,cY,j5,im,lu,LB]
   ·rintro e gR QV ⟨nq,b3,cG,nr,ns,wE,wF,An⟩
    simp only[Mz,ED,go_sem,nq,b3,cG,nr,ns,wE,wF,An,hw,LB,bG,hlen,f4,pL,vM,f2,qd]
    all_goals(refine bW _ _ ⟨n+1,gR,?_,QV,by omega,rfl⟩;simp only[go_sem,nq,b3,cG,nr,ns,wE,wF,hw,LB,f2,qd])
  ·have d:decide (s.cls=7)=false:=bA af
   have HC:oJ (s::l.drop (i+1))=oJ (l.drop (i+1)):=by simp[oJ,af]
   rw[HC]at jn
   rw[Wi t u af]at jK
   simp only[Mz,ED,go_sem,bE,s2,a8,cY,bt,j5,im,lu,aB,bx,hi,d,tk,Au,bG,hlen,hw,f4,pL,vM,f2,qd,fU,bJ]
   all_goals(refine bW _ _ ⟨n,m,?_,jK,jn,rfl⟩;simp only[go_sem,bE,s2,a8,cY,bt,j5,im,hw,f2,qd])
 ·rintro e ai Y gn aB ⟨n,m,⟨bE,s2,a8,cY,bt,j5,im,lu⟩,jK,jn,rfl⟩ fl
  rw[y5 (bP _)]at jK
  simp only[Mz,ED,go_sem,bE,s2,a8,cY,bt,j5,im,lu,aB]
  all_goals(refine fl _ _ _ ⟨rfl,m,jK,rfl⟩)
 ·refine⟨0,0,?_,by rw[l6,l6,l6];exact hQ,by rw[l6];omega,rfl⟩
  simp only[go_sem,bJ]
 ·rintro q e ai ⟨rfl,m,jK,rfl⟩
  simp only[TM,go_sem]
  exact bI m jK
end
theorem aa1:lL Tryz.prog cX 12=some ⟨127,Ep,[(8,none),(9,none)]⟩:=by kernel_rfl
theorem awi{e:aM}{h:aj}:cc Tryz.prog cX 12 e h (.raw (eF Tryz.prog 12 12 4))=qA 1 24 (.aA (.slice none 0 0)) h (asNat (Src.get e (.v 54))) (asNat (Src.get e (.v 54))):=tT (t:=89) (l:=(.tmp 54)) (c:=(.tmp 54)) (elem:=28) (by kernel_rfl) (by kernel_rfl) (by kernel_rfl) (by kernel_rfl) (by kernel_rfl) (by kernel_rfl) (by kernel_rfl)
theorem awj{e:aM}{h:aj}:cc Tryz.prog cX 12 e h (.raw (eF Tryz.prog 12 16 3))=qA 1 1 (.aA (.bool false)) h (asNat (Src.get e (.v 63))) (asNat (Src.get e (.v 63))):=tT (t:=28) (l:=(.tmp 63)) (c:=(.tmp 63)) (elem:=4) (by kernel_rfl) (by kernel_rfl) (by kernel_rfl) (by kernel_rfl) (by kernel_rfl) (by kernel_rfl) (by kernel_rfl)
theorem awk{e:aM}{h:aj}:cc Tryz.prog cX 12 e h (.raw (eF Tryz.prog 12 26 2))=qA 2 32 (.agg [(.aA (.slice none 0 0)),(.aA (.int .i64 0))]) h (asNat (Src.get e (.v 108))) (asNat (Src.get e (.v 108))):=tT (t:=52) (l:=(.tmp 108)) (c:=(.tmp 108)) (elem:=97) (by kernel_rfl) (by kernel_rfl) (by kernel_rfl) (by kernel_rfl) (by kernel_rfl) (by kernel_rfl) (by kernel_rfl)
theorem JP(p:b7)(h:jt p)(co:Option Bool)(o:List Int)(aC:tO p o)(pO:co=none→o=[]):a0 Tryz.prog pol 11 [g1 false false p,jG co o]=some (.ch [B (!nN p o 0 o),I 0]):=by
 cases co with
 | some c=>exact Wy false false p h c o aC
 | none =>
  have e:=pO rfl
  subst e
  have ao:=aC.len
  have bB:=Cp false false p h
  have aw:p.aK.length=0:=by simpa using ao.symm
  simp only[jG,nN]
  refine cK 10 1 aaP (bH rfl) ?_
  (repeat' first|simp only[Eo,go_sem,bB,aw,bJ]|with_reducible refine aZ fun _=>?_|((with_reducible refine yM ?_ ?_);rfl)|((with_reducible refine wc (body:=c6 _ _ _ _ _ _ SL) ?_ ?_);exact bH rfl;simp only[SM,H9])|((with_reducible refine wc (body:=c6 _ _ _ _ _ _ SO) ?_ ?_);exact bH rfl;simp only[Ib,BW])|fail)
  all_goals rfl
theorem Wh(p:b7):∀ l:List fp,yN p l=false↔∀ u∈l,u.kr≤bT p u.str:=by
 intro l
 induction l with
 | nil=>simp[yN]
 | cons u l au=>rw[yN,J7,au,oi];simp[Int.not_lt]
section
variable(t:bR)(u:fZ)(h:g0 t=true)(hu:m4 u)(l:List dg)(ao:l.length≤12)(J:∀ s∈l,iM t s)
include h hu ao J
theorem yi(bl:kS (b2 t u l).1 (b2 t u l).2=0):jt (b2 t u l).1∧vL (b2 t u l).1 (ga (b2 t u l).1.aK:Nat)=false∧(b2 t u l).2=false∧yN (b2 t u l).1 (b2 t u l).1.dr=false:=by
 have bK:=U9 t u h hu J
 obtain⟨jy,jz,jA⟩:=mw h
 generalize (b2 t u l).1=p at *
 generalize (b2 t u l).2=lt at *
 unfold kS at bl
 split at bl
 ·cases bl
 ·rename_i af
  unfold DA at bl
  split at bl
  ·cases bl
  ·rename_i aI
   split at bl
   ·cases bl
   ·rename_i hw
    split at bl
    ·cases bl
    ·rename_i aB
     rw[F7]at aI hw aB
     refine⟨⟨by have:=bK.pl;omega,by have:=bK.ul;omega,bK.aK,by omega,fun x U=>?_⟩,aI,aB,hw⟩
     obtain⟨a,b,c,d⟩:=bK.us x U
     exact⟨a.1,a.2,b.1,by omega,c.1,c.2,d,(Wh p p.dr).1 hw x U⟩
variable(aw:∀(i j:Nat) (a b:dg),l[i]? = some a→l[j]? = some b→i<j→a.id≠b.id)(bl:kS (b2 t u l).1 (b2 t u l).2=0)
include aw bl
theorem afX(c1 c2 c:Bool)(co:Option Bool)(o:List Int)(aC:tO (b2 t u l).1 o)(dx:nN (b2 t u l).1 o 0 o=true)(pO:co=none→o=[]) :
  a0 Tryz.prog cX 12 [fY c1 c2 t,sO u,.aP c 10 (l.map ek),jG co o]=some (.ch [gN,I 380]):=by
 have bB:=AJ t u h hu c1 c2 c l ao J aw
 rw[wq,a6 bl]at bB
 obtain⟨av,_⟩:=yi t u h hu l ao J bl
 have aO:=up (JP _ av co o aC pO)
 rw[dx]at aO
 generalize (b2 t u l).1=p at *
 refine cK 200 5 aa1 (bH rfl) ?_
 (repeat' first|simp only[Ep,go_sem,bB,aO]|with_reducible first|refine aZ fun _=>?_|refine a1 ?_|fail)
end
theorem aqa:lL Tryz.prog cX 30=some ⟨24,Tn,[]⟩:=by kernel_rfl
abbrev jb:=List Bool × Nat
def jw(r:jb):a9:=.row 1 ((r.1.map B).map .t) r.2
def CG(bp:List jb)(q j:Nat):List jb:=match bp[q]? with
 | some r=>bp.set q (r.1.set j true,r.1.length)
 | none=>bp
def oB(C:Nat)(bp:List jb)(q a:Nat):Nat→List jb
 | 0=>bp
 | i+1=>CG (oB C bp q a i) q ((a+i) % C)
structure jX(C L:Nat)(bp:List jb):Prop where
 l:bp.length=L
 r:∀ r∈bp,r.1.length=C∧r.2≤C
theorem agi{C L:Nat}{bp:List jb}(h:jX C L bp)(q j:Nat):jX C L (CG bp q j):=by
 unfold CG
 split
 ·rename_i r al
  have:=h.r r (gp al)
  refine⟨by rw[uA];exact h.l,fun x U=>?_⟩
  rcases JV U with U|rfl
  ·exact h.r x U
  ·simp[this.1]
 ·exact h
theorem JT{C L:Nat}{bp:List jb}(h:jX C L bp)(q a:Nat):∀ n,jX C L (oB C bp q a n):=by
 intro n
 induction n with
 | zero=>exact h
 | succ n au=>exact agi au _ _
abbrev vr(C L mk:Nat):a9:=.row 1 ((List.range L).map fun i=>ah.ms (4+i) C 0 C 1 true) mk
abbrev fK(lD:a9)(C L mk:Nat)(bp:List jb)(Z:aj):aj:=lD::.row 1 [.t (I (C:Nat))] 1::vr C L mk::.row 1 [.ms 2 L 0 L 1 true] 1::(bp.map jw++Z)
section
variable(lD:a9)(C L mk:Nat)(g8:mk≤L)(fy:1≤C∧C≤960)
include g8 fy
theorem aty(bp:List jb)(nT:jX C L bp)(Z:aj)(q a n:Nat)(aE:q<L)(ae:a≤1000000000)(aw:n≤2000000)(bn aR:Nat)(jn:2000000<aR)(Q:ah→aj→Prop)(bI:Q (.t (.ch [])) (fK lD C L mk (oB C bp q a n) Z)) :
  ej (inl Tryz.prog cX (a0 Tryz.prog cX) aR (bn+1) (.fn 30) [.t (I (q:Nat)),.t (I (a:Nat)),.t (I (n:Nat)),.ref 3 1 0 0,.ref 1 1 0 0] (fK lD C L mk bp Z)) Q:=by
 have oY:∀(c H V:a9) (Y:aj),(lD::c::H::V::Y)[4+q]? = Y[q]?:=fun c H V Y=>by rw[show 4+q=q+1+1+1+1 by omega];rfl
 have cY:∀(c H V z:a9) (Y:aj),(lD::c::H::V::Y).set (4+q) z=lD::c::H::V::Y.set q z:=fun c H V z Y=>by rw[show 4+q=q+1+1+1+1 by omega];rfl
 have Qu:((List.range L).map fun i=>ah.ms (4+i) C 0 C 1 true)[q]? = some (.ms (4+q) C 0 C 1 true):=by simp[aE]
 have UJ:((List.range L).map fun i=>ah.ms (4+i) C 0 C 1 true).length=L:=by simp
 refine lp aqa (bH rfl) ?_
 simp only[Tn,go_sem]
 refine hA (List.replicate n ()) (fun _=>B true) (St:=fun i e ai=>(e 0=.t (I (q:Nat))∧e 1=.t (I (a:Nat))∧e 3=.ref 3 1 0 0∧e 4=.ref 1 1 0 0∧e 9=.t (I (n:Nat))∧e 10=.t (I (i:Nat)))∧ai=fK lD C L mk (oB C bp q a i) Z)
  (Ex:=fun x e ai=>x=.exit 0∧ai=fK lD C L mk (oB C bp q a n) Z) (by simp;omega) ?_ ?_ (by simp;omega) ?_ ?_
 ·rintro i x e ai Y gn hm hi v7 bx aB hw ⟨⟨bE,s1,a8,VM,cM,cV⟩,rfl⟩ bW fl
  rw[ic]at aB hi
  have tn:=JT nT q a i
  have xY:q<(oB C bp q a i).length:=by rw[tn.l];exact aE
  obtain⟨r,al⟩:∃ r,(oB C bp q a i)[q]? = some r:=⟨_,fC xY⟩
  obtain⟨lQ,tC⟩:=tn.r r (gp al)
  have tw:∀ Z:aj,((oB C bp q a i).map jw++Z)[q]? = some (.row 1 ((r.1.map B).map .t) r.2):=fun Z=>by rw[fv (by simpa using xY),eE,al];rfl
  have kl:=nT.l
  have fA:=tn.l
  have eC:=(JT nT q a (i+1)).l
  have aU:(a+i) % C<C:=mF _ (by omega)
  have aou:∀ Z:aj,((oB C bp q a i).map jw++Z).set q (.row 1 (((r.1.set ((a+i) % C) true).map B).map .t) C)=(oB C bp q a (i+1)).map jw++Z:=fun Z=>by
   rw[List.set_append_left _ _ (by simpa using xY)]
   congr 1
   rw[oB,CG,al]
   simp only
   rw[lQ]
   exact(y9 (f:=jw) (a:=(r.1.set ((a+i) % C) true,C))).symm
  have R8:((r.1.map B).map ah.t).set ((a+i) % C) (.t (B true))=((r.1.set ((a+i) % C) true).map B).map .t:=by rw[y9,y9]
  have hle:((r.1.map B).map ah.t).length=C:=by simp[lQ]
  have cI:IntKind.i64.wrap (((a:Nat):Int)+((i:Nat):Int))=((a+i:Nat):Int):=by rw[wrap_i64 (by omega) (by omega)];omega
  have ft:((C:Nat):Int)≠0:=by omega
  have zM:((a+i:Nat):Int).tmod (C:Nat)=(((a+i) % C:Nat):Int):=by rw[Int.ofNat_tmod]
  have nj:((r.1.map B).map ah.t)[(a+i) % C]? = some (.t (B (r.1[(a+i) % C]'(by omega)))):=by rw[eE,eE,fC (by omega)];rfl
  generalize r.1[(a+i) % C]'(by omega)=aBC at *
  generalize (r.1.map B).map ah.t=es at *
  (repeat' first|simp only[abt,Mm,go_sem,bE,s1,a8,VM,cM,cV,aB,hw,Qu,UJ,aE,g8,oY,cY,tw,aU,R8,hle,tC,cI,ft,zM,aou,nj,kl,fA,eC,bP]|with_reducible first|refine aZ fun _=>?_|refine a1 ?_|fail)
  all_goals(refine bW _ _ ⟨?_,rfl⟩;simp only[go_sem,bE,s1,a8,VM,cM,hw])
 ·rintro e ai Y gn aB ⟨⟨bE,s1,a8,VM,cM,cV⟩,rfl⟩ fl
  rw[ic]at aB cV
  simp only[abt,Mm,go_sem,cM,cV,aB]
  all_goals(refine fl _ _ _ ⟨rfl,?_⟩;simp)
 ·refine⟨?_,rfl⟩
  simp only[go_sem]
 ·rintro x e ai ⟨rfl,rfl⟩
  simp only[Tn,go_sem]
  all_goals exact bI
end
theorem apG:eS Tryz.prog cX 12 127 0 (hc Tryz.prog 12 0).1=aa3:=by kernel_rfl
theorem apH:eS Tryz.prog cX 12 127 0 (hc Tryz.prog 12 0).2=S0:=by kernel_rfl
def mA(g:Int)(w:hn):Nat:=((w.dA+g-1) / g).toNat
def pq(C:Nat)(g:Int)(w:hn)(bp:List jb):Nat→List jb
 | 0=>bp
 | i+1=>oB C (pq C g w bp i) w.fN (((w.bQ+(i:Nat)*w.e0) / g).toNat) (mA g w)
theorem w3{C L:Nat}{bp:List jb}(g:Int)(w:hn)(h:jX C L bp):∀ n,jX C L (pq C g w bp n):=by
 intro n
 induction n with
 | zero=>exact h
 | succ n au=>exact JT au _ _ _
structure JG(C L:Nat)(g:Int)(w:hn)(K:Nat):Prop where
 fN:w.fN<L
 bQ:0≤w.bQ∧w.bQ≤100000000
 dA:1≤w.dA∧w.dA≤1542000
 e0:1≤w.e0
 k:((K:Nat):Int)*w.e0=(C:Nat)*g
 UD:K≤960
section
variable(C L:Nat)(fy:1≤C∧C≤960)(g:Int)(ay:1≤g∧g≤10000)(c1 c2 dh:Int)(U:List jb→aj)(vu I9 bn aR:Nat)(w:hn)(K:Nat)(hw:JG C L g w K)
 (hlen:∀ bp,jX C L bp→(U bp).length=vu) (ad:∀ bp Y,(U bp++Y)[1]? = some (a9.row 1 [.t (I (C:Nat))] 1)) (eA:∀ bp Y,jX C L bp→(U bp++Y)[I9]? = some (a9.row 1 [.fn (.func 30) [] [.ref 3 1 0 0,.ref 1 1 0 0]] 1))
 (g8:∀ bp Y (q a n:Nat) (Q:ah→aj→Prop),jX C L bp→q<L→a≤1000000000→n≤2000000→Q (.t (.ch [])) (U (oB C bp q a n)++Y)→ej (inl Tryz.prog cX (a0 Tryz.prog cX) aR (bn+1) (.fn 30) [.t (I (q:Nat)),.t (I (a:Nat)),.t (I (n:Nat)),.ref 3 1 0 0,.ref 1 1 0 0] (U bp++Y)) Q)
include fy ay hw hlen ad eA g8
theorem aAW(bp:List jb)(fK:jX C L bp)(aw:2000000<aR)(fT:cW→aM→aj→Prop)(e:aM)
  (he:e 5=.t (.ip [I g,I c1,I c2,I dh])∧e 13=.ref 1 1 0 0∧e 16=.ref I9 1 0 0∧e 17=.ref vu 1 0 0∧e 18=.t (I (mA g w:Nat))∧e 19=.t (I w.bQ))
  (bk:∀ e,(e 5=.t (.ip [I g,I c1,I c2,I dh])∧e 13=.ref 1 1 0 0∧e 16=.ref I9 1 0 0)→fT (.exit 4) e (U (pq C g w bp K)++[.row 4 [.t (qP w)] 1])) :
  gP (vu+1) (some [5,13,16,17,18,19]) (c6 Tryz.prog cX (a0 Tryz.prog cX) (inl Tryz.prog cX (a0 Tryz.prog cX) aR (bn+1)) aR 12 SW) fT aR e (U bp++[.row 4 [.t (qP w)] 1]):=by
 obtain⟨fN,⟨f0,f1⟩,⟨eh,cx⟩,e0,qy,UD⟩:=hw
 have j2:((C:Nat):Int)*g≤960*10000:=uo (by omega) ay.2 (by omega) (by omega)
 have Zb:0≤((C:Nat):Int)*g:=s5 (by omega) (by omega)
 have aBU:((K:Nat):Int)≤960*10000:=by
  have:((K:Nat):Int)*1≤((K:Nat):Int)*w.e0:=WR e0 (by omega)
  omega
 have zt:∀ bp (Y:aj),jX C L bp→(U bp++(.row 4 [.t (qP w)] 1::Y))[vu]? = some (.row 4 [.t (qP w)] 1):=fun bp Y h=>by rw[g5 (by rw[hlen bp h];omega),hlen bp h,nC];rfl
 have aab:mA g w≤2000000:=by
  have ad:0≤(w.dA+g-1) / g:=uB (by omega) (by omega)
  have ag:(w.dA+g-1) / g≤w.dA+g-1:=AQ _ (by omega)
  unfold mA;omega
 have cI:IntKind.i64.wrap (((C:Nat):Int)*g)=((C:Nat):Int)*g:=wrap_i64 (by omega) (by omega)
 have dZ:IntKind.i64.wrap (w.bQ+((C:Nat):Int)*g)=w.bQ+((C:Nat):Int)*g:=wrap_i64 (by omega) (by omega)
 refine hA (List.replicate K ()) (fun _=>B true) (St:=fun i e ai=>(e 5=.t (.ip [I g,I c1,I c2,I dh])∧e 13=.ref 1 1 0 0∧e 16=.ref I9 1 0 0∧e 17=.ref vu 1 0 0∧e 18=.t (I (mA g w:Nat))∧e 19=.t (I (w.bQ+(i:Nat)*w.e0)))∧ai=U (pq C g w bp i)++[.row 4 [.t (qP w)] 1])
  (Ex:=fun x e ai=>x=.exit 4∧(e 5=.t (.ip [I g,I c1,I c2,I dh])∧e 13=.ref 1 1 0 0∧e 16=.ref I9 1 0 0)∧ai=U (pq C g w bp K)++[.row 4 [.t (qP w)] 1]) (by simp;omega) ?_ ?_ (by simp;omega) ?_ ?_
 ·rintro i x e ai Y gn hm hi v7 bx aB LM ⟨⟨bC,n6,im,lu,Js,m2⟩,rfl⟩ bW fl
  rw[ic]at aB hi
  have tn:=w3 g w fK i
  have Y1:=w3 g w fK (i+1)
  have anu:0≤((i:Nat):Int)*w.e0:=s5 (by omega) (by omega)
  have RA:((i+1:Nat):Int)*w.e0=((i:Nat):Int)*w.e0+w.e0:=by push_cast;rw[za,zb]
  have Ls:((i+1:Nat):Int)*w.e0≤(K:Nat)*w.e0:=OU (by omega) (by omega)
  rw[RA,qy]at Ls
  have a3:decide (w.bQ+((i:Nat):Int)*w.e0<w.bQ+((C:Nat):Int)*g)=true:=bY (by omega)
  have hE:IntKind.i64.wrap (w.bQ+((i:Nat):Int)*w.e0+w.e0)=w.bQ+((i+1:Nat):Int)*w.e0:=by rw[wrap_i64 (by omega) (by omega)];omega
  have ft:g≠0:=by omega
  have d0:0≤(w.bQ+((i:Nat):Int)*w.e0) / g:=uB (by omega) (by omega)
  have d1:(w.bQ+((i:Nat):Int)*w.e0) / g≤w.bQ+((i:Nat):Int)*w.e0:=AQ _ (by omega)
  have aE:(w.bQ+((i:Nat):Int)*w.e0).tdiv g=((((w.bQ+((i:Nat):Int)*w.e0) / g).toNat:Nat):Int):=by rw[FZ (by omega),uw d0]
  have Oi:IntKind.i64.wrap ((((w.bQ+((i:Nat):Int)*w.e0) / g).toNat:Nat):Int)=((((w.bQ+((i:Nat):Int)*w.e0) / g).toNat:Nat):Int):=wrap_i64 (by omega) (by omega)
  have af:=fun Q bI=>g8 (pq C g w bp i) [.row 4 [.t (qP w)] 1] w.fN ((w.bQ+((i:Nat):Int)*w.e0) / g).toNat (mA g w) Q tn fN (by omega) aab bI
  have tA:=hlen _ tn
  have o2:=hlen _ Y1
  have aT:pq C g w bp (i+1)=oB C (pq C g w bp i) w.fN ((w.bQ+((i:Nat):Int)*w.e0) / g).toNat (mA g w):=rfl
  have Qw:=fun Y=>zt _ Y tn
  have alD:=fun Y=>zt _ Y Y1
  have DX:∀ f a b,(ah.fn f a b).cells=[.fn f a b]:=fun _ _ _=>rfl
  have amc:=fun Y=>eA _ Y tn
  rw[← aT]at af
  generalize pq C g w bp i=age at *
  generalize pq C g w bp (i+1)=agh at *
  generalize ((w.bQ+((i:Nat):Int)*w.e0) / g).toNat=a at *
  generalize w.bQ+((i:Nat):Int)*w.e0=f at *
  obtain⟨Jd,GW,IW,Jc⟩:=w
  simp only at *
  (repeat' first|simp only[SX,Ie,go_sem,bC,n6,im,lu,Js,m2,ad,Qw,amc,cI,dZ,a3,ft,aE,tA,DX,Oi]|with_reducible first|refine aZ fun _=>?_|refine a1 ?_|fail)
  with_reducible refine af _ ?_
  simp only[SX,Ie,go_sem,bC,n6,im,lu,Js,m2,alD,tA,o2,bP,hE]
  all_goals(refine bW _ _ ⟨?_,rfl⟩;simp only[go_sem,bC,n6,im,lu,Js,hE])
 ·rintro e ai Y gn aB ⟨⟨bC,n6,im,lu,Js,m2⟩,rfl⟩ fl
  rw[ic]at m2 ⊢
  have a3:decide (w.bQ+((K:Nat):Int)*w.e0<w.bQ+((C:Nat):Int)*g)=false:=bA (by omega)
  have tA:=hlen _ (w3 g w fK K)
  have Qw:=fun Y=>zt _ Y (w3 g w fK K)
  generalize pq C g w bp K=age at *
  generalize w.bQ+((K:Nat):Int)*w.e0=f at *
  obtain⟨Jd,GW,IW,Jc⟩:=w
  simp only at *
  simp only[SX,Ie,go_sem,bC,n6,im,lu,Js,m2,ad,Qw,cI,dZ,a3,tA]
  all_goals(refine fl _ _ _ ⟨rfl,?_,rfl⟩;simp only[go_sem,bC,n6,im])
 ·refine⟨?_,rfl⟩
  obtain⟨cJ,cU,dU,gA,lI,zd⟩:=he
  exact⟨cJ,cU,dU,gA,lI,by rw[zd];simp⟩
 ·rintro x e ai ⟨rfl,J,rfl⟩
  exact bk e J
end
def sR(C L:Nat):List jb:=List.replicate L (List.replicate C false,0)
theorem FX(C L:Nat):jX C L (sR C L):=⟨by simp[sR],fun r al=>by rw[WZ al];simp⟩
def rT(C L i:Nat):List ah:=((List.range i).map fun i=>ah.ms (4+i) C 0 C 1 true)++List.replicate (L-i) (.t gN)
theorem WC{C L i:Nat}(h:i≤L):(rT C L i).length=L:=by simp[rT];omega
theorem afT{C L i:Nat}(h:i<L):(rT C L i).set i (.ms (4+i) C 0 C 1 true)=rT C L (i+1):=by
 unfold rT
 obtain⟨k,an⟩:∃ k,L-i=k+1:=⟨L-i-1,by omega⟩
 have ao:((List.range i).map fun i=>ah.ms (4+i) C 0 C 1 true).length=i:=by simp
 rw[an,pB,AM _ _ (by omega),ao,nC,AO,y4,ux,fU,show L-(i+1)=k by omega]
 rfl
theorem afS{C L i:Nat}(h:i<L):(rT C L i)[i]? = some (.t gN):=by
 unfold rT
 rw[g5 (by simp),s7,a6 (by simp;omega)]
section
variable(lD:a9)(C L:Nat)(fy:1≤C∧C≤960)(eL:L≤48)
include fy eL
theorem axB(cU dU gA lI Kl Km:ah)(fT:eY)(aR:Nat)(m:Nat)(hm:1000<m)(R:cW→aM→aj→Prop)(e:aM)(cF:Nat)(iV:1000000≤cF)
  (he:e 2=cU∧e 3=dU∧e 4=gA∧e 5=lI∧e 8=Kl∧e 9=Km∧e 13=.ref 1 1 0 0∧e 14=.ref 3 1 0 0∧e 57=.t (I (L:Nat))∧e 58=.t (I 0))
  (bk:∀ e mk,mk≤L→(e 2=cU∧e 3=dU∧e 4=gA∧e 5=lI∧e 8=Kl∧e 9=Km∧e 13=.ref 1 1 0 0∧e 14=.ref 3 1 0 0)→R (.exit 0) e (fK lD C L mk (sR C L) [])) :
  gP cF (some [2,3,4,5,8,9,13,14,57,58]) (c6 Tryz.prog cX (a0 Tryz.prog cX) fT aR 12 SV) R m e [lD,.row 1 [.t (I (C:Nat))] 1,.row 1 (List.replicate L (.t gN)) 0,.row 1 [.ms 2 L 0 L 1 true] 1]:=by
 have p0:1*C≤eQ:=by rw[Aq];omega
 have axq:C≤eQ:=by rw[Aq];omega
 have Jl:C≤9223372036854775807:=by omega
 refine hA (List.replicate L ()) (fun _=>B true) (St:=fun i e ai=>∃ mk,(e 2=cU∧e 3=dU∧e 4=gA∧e 5=lI∧e 8=Kl∧e 9=Km∧e 13=.ref 1 1 0 0∧e 14=.ref 3 1 0 0∧e 57=.t (I (L:Nat))∧e 58=.t (I (i:Nat)))∧mk≤L∧ai=lD::.row 1 [.t (I (C:Nat))] 1::.row 1 (rT C L i) mk::.row 1 [.ms 2 L 0 L 1 true] 1::List.replicate i (.row 1 (List.replicate C (.t (B false))) 0))
  (Ex:=fun x e ai=>x=.exit 0∧∃ mk,(e 2=cU∧e 3=dU∧e 4=gA∧e 5=lI∧e 8=Kl∧e 9=Km∧e 13=.ref 1 1 0 0∧e 14=.ref 3 1 0 0)∧mk≤L∧ai=fK lD C L mk (sR C L) []) (by simp;omega) ?_ ?_ (by simp;omega) ⟨0,he,by omega,by simp[rT]⟩ ?_
 ·rintro i x e ai Y gn hm hi v7 bx aB hw ⟨mk,⟨s2,a8,cY,bC,dG,cM,n6,lr,lv,qK⟩,g8,rfl⟩ bW fl
  rw[ic]at aB hi
  have amf:=WC (C:=C) (show i≤L by omega)
  have amg:=afT (C:=C) hi
  have ame:=afS (C:=C) hi
  have aBT:=WC (C:=C) (show i+1≤L by omega)
  generalize rT C L (i+1)=WB at *
  generalize rT C L i=H1 at *
  have amp:(List.replicate i (a9.row 1 (List.replicate C (.t (B false))) 0)).length=i:=ic
  have key:List.replicate i (a9.row 1 (List.replicate C (.t (B false))) 0)++[a9.row 1 (List.replicate C (.t (B false))) 0]=List.replicate (i+1) (a9.row 1 (List.replicate C (.t (B false))) 0):=List.replicate_succ'.symm
  generalize List.replicate i (a9.row 1 (List.replicate C (.t (B false))) 0)=hU at *
  have YZ:(List.replicate (i+1) (a9.row 1 (List.replicate C (.t (B false))) 0)).length=i+1:=ic
  generalize List.replicate (i+1) (a9.row 1 (List.replicate C (.t (B false))) 0)=WL at *
  have cB:i+1+1+1+1=4+i:=by omega
  have anp:i≤i+1:=by omega
  (repeat' first|simp only[aa2,L6,go_sem,s2,a8,cY,bC,dG,cM,n6,lr,lv,qK,aB,awj,p0,axq,Jl,amp,key,cB,anp,hi,amf,ame,amg,g8,hw]|with_reducible first|refine aZ fun _=>?_|refine a1 ?_|fail)
  have hy:∀ e,iq cF e (lD::.row 1 [.t (I (C:Nat))] 1::.row 1 WB L::.row 1 [.ms 2 L 0 L 1 true] 1::WL)=some (e,lD::.row 1 [.t (I (C:Nat))] 1::.row 1 WB L::.row 1 [.ms 2 L 0 L 1 true] 1::WL):=fun e=>by
   unfold iq
   rw[a6 (by simp only[jc,YZ];omega)]
  refine⟨by omega,?_,?_⟩
  ·rw[YZ,show i+1+1+1+1+1-(4+i)=1 by omega]
   simp[nO,r9,vA]
   omega
  ·rw[hy]
   refine bW _ _ ⟨L,?_,bP _,rfl⟩
   simp only[go_sem,s2,a8,cY,bC,dG,cM,n6,lr,lv,hw]
 ·rintro e ai Y gn aB ⟨mk,⟨s2,a8,cY,bC,dG,cM,n6,lr,lv,qK⟩,g8,rfl⟩ fl
  rw[ic]at aB qK ⊢
  have uK:rT C L L=(List.range L).map fun i=>ah.ms (4+i) C 0 C 1 true:=by simp[rT]
  have bl:∀ Z,(sR C L).map jw++Z=List.replicate L (.row 1 (List.replicate C (.t (B false))) 0)++Z:=fun Z=>by simp[sR,jw]
  rw[uK]
  generalize hJ:((List.range L).map fun i=>ah.ms (4+i) C 0 C 1 true)=H1 at *
  simp only[aa2,L6,go_sem,s2,a8,cY,bC,dG,cM,n6,lr,lv,qK,aB]
  all_goals(refine fl _ _ _ ⟨rfl,mk,?_,g8,?_⟩)
  ·simp only[go_sem,s2,a8,cY,bC,dG,cM,n6,lr]
  ·rw[fK,bl,oj,vr,hJ]
 ·rintro x e ai ⟨rfl,mk,J,g8,rfl⟩
  exact bk e mk g8 J
end
theorem akH(m n:Nat):m ∣ kF m n∧n ∣ kF m n:=by
 refine⟨?_,Nat.dvd_mul_left _ _⟩
 unfold kF
 obtain⟨a,ae⟩:=Nat.gcd_dvd_right m n
 obtain⟨b,ab⟩:=Pj m n
 by_cases bo:Nat.gcd m n=0
 ·have:m=0:=Nat.eq_zero_of_gcd_eq_zero_left bo
  subst this;simp
 ·refine⟨a,?_⟩
  have e:m / Nat.gcd m n=b:=Nat.div_eq_of_eq_mul_right (by omega) ab
  rw[e]
  generalize Nat.gcd m n=g at *
  rw[ae,ab,s3 g b,Nat.mul_assoc]
theorem Yh:∀(l:List Nat) (m:Nat),(∀ n∈l,1≤n)→1≤m→pJ m l≤960→1≤pJ m l∧m ∣ pJ m l∧∀ n∈l,n ∣ pJ m l:=by
 intro l
 induction l with
 | nil=>intro m _ hm _;exact⟨hm,Nat.dvd_refl _,by simp⟩
 | cons n l au =>
  intro m ao hm hle
  obtain⟨d1,d2⟩:=akH m n
  rw[pJ]at hle ⊢
  by_cases hK:960<kF m n
  ·rw[a6 hK]at hle;omega
  ·rw[a2 hK]at hle ⊢
   have ad:1≤kF m n:=Nat.mul_pos (Nat.div_pos (O3 _ hm) (F0 _ hm)) (ao n (by simp))
   obtain⟨i1,i2,i3⟩:=au _ (fun x U=>ao x (by simp[U])) ad hle
   refine⟨i1,Nat.dvd_trans d1 i2,fun x U=>?_⟩
   rcases iu.1 U with rfl|U
   ·exact Nat.dvd_trans d2 i2
   ·exact i3 x U
theorem KE{bO:List Int}(h:∀ x∈bO,1≤x)(af:ga bO≤960):1≤ga bO∧∀ x∈bO,x ∣ ((ga bO:Nat):Int):=by
 obtain⟨a,_,b⟩:=Yh (bO.map Int.toNat) 1 (fun n aw=>by
  obtain⟨x,U,rfl⟩:=nE.1 aw
  have:=h x U;omega) (bP _) af
 refine⟨a,fun x U=>?_⟩
 have ad:=h x U
 have:=OQ.2 (b x.toNat (JX U))
 rwa[uw (by omega)]at this
theorem aAT{t:bR}{u:fZ}{w:hn}:∀(l:List dg) (o:List Int),w∈lA t u l o→∃ s∈l,s.cls=7∧∃ x∈o,∃ r∈s.dv,∃ k,k<r.length∧w=qO u s x (ih t u s r k):=by
 intro l
 induction l with
 | nil=>intro o h;simp[lA]at h
 | cons s l au =>
  intro o h
  by_cases af:s.cls=7
  ·cases o with
   | nil=>simp[lA,af]at h
   | cons x o =>
    rw[Wj t u af]at h
    rcases hp.1 h with h|h
    ·obtain⟨r,al,h⟩:=O1.1 h
     obtain⟨y,ar,rfl⟩:=nE.1 h
     simp only[iW,nE,vv]at ar
     obtain⟨k,an,rfl⟩:=ar
     exact⟨s,by simp,af,x,by simp,r,al,k,an,rfl⟩
    ·obtain⟨s',ad,ag,eX,aJ,bL⟩:=au o h
     exact⟨s',by simp[ad],ag,eX,by simp[aJ],bL⟩
  ·rw[Wi t u af]at h
   obtain⟨s',ad,ag,eX,aJ,bL⟩:=au o h
   exact⟨s',by simp[ad],ag,eX,aJ,bL⟩
def rz(C:Nat)(g:Int)(w:hn):Nat:=((C:Nat)*g / w.e0).toNat
theorem au6{t:bR}{u:fZ}{s:dg}(af:s.cls=7):∀(l:List dg) (q:b7 × Bool),(s∈l∨s.aK∈q.1.aK)→s.aK∈(l.foldl (po t u) q).1.aK:=by
 intro l
 induction l with
 | nil=>intro q h;rcases h with h|h;simp at h;exact h
 | cons a l au =>
  intro q h
  refine au _ ?_
  rcases h with h|h
  ·rcases iu.1 h with rfl|h
   ·right;unfold po;rw[a6 af];simp
   ·exact .inl h
  ·right;unfold po
   split
   ·simp[h]
   ·exact h
theorem Vq{t:bR}{s:dg}(J:iM t s)(af:s.cls=7):1≤s.aK∧s.aK≤240:=by
 rcases J.iR with⟨_,p,_⟩|⟨c,_⟩
 ·exact p
 ·omega
theorem Wk{t:bR}{u:fZ}(h:g0 t=true)(hu:m4 u){l:List dg}(J:∀ s∈l,iM t s){o:List Int}(aC:∀ x∈o,0≤x∧x<240)(ow:∀ x∈(b2 t u l).1.aK,1≤x)(fy:ga (b2 t u l).1.aK≤960){w:hn}(hw:w∈lA t u l o) :
  JG (ga (b2 t u l).1.aK) (2*t.cd.length) u.g w (rz (ga (b2 t u l).1.aK) u.g w)∧u.g ∣ w.bQ∧u.g ∣ w.e0:=by
 obtain⟨s,BO,af,x,U,r,al,k,an,rfl⟩:=aAT l o hw
 have aS:=J s BO
 obtain⟨b,_,pp⟩:=Ea t u s h hu aS (aS.rt r al).1 k an
 obtain⟨cP,dc⟩:=Vq aS af
 obtain⟨c1,c2⟩:=KE ow fy
 obtain⟨q,aE⟩:=c2 s.aK (au6 af l _ (.inl BO))
 have fA:=(aS.rt r al).1.cx
 obtain⟨gV,cg⟩:=hu.g
 obtain⟨p6,dW⟩:=aC x U
 have aoO:0≤x*u.g∧x*u.g≤240*10000:=⟨s5 p6 (by omega),uo (by omega) (by omega) (by omega) (by omega)⟩
 have qD:=b.qD
 have hB:=b.hB
 have eh:=b.eh
 have cx:=b.cx
 have BL:1≤q:=by
  rcases Int.lt_or_le q 1 with h|h
  ·have:s.aK*q≤0:=Int.mul_nonpos_of_nonneg_of_nonpos (by omega) (by omega)
   omega
  ·exact h
 have BJ:1≤s.aK*u.g:=Int.mul_pos (by omega) (by omega)
 have an:((ga (b2 t u l).1.aK:Nat):Int)*u.g / (s.aK*u.g)=q:=by
  rw[aE,Kj,Int.mul_comm q,← Kj]
  exact Int.mul_ediv_cancel_left _ (by omega)
 have Ee:q≤((ga (b2 t u l).1.aK:Nat):Int):=by
  rw[aE]
  have:1*q≤s.aK*q:=OU (by omega) (by omega)
  omega
 refine⟨⟨pp,⟨by simp only[qO];omega,by simp only[qO];omega⟩,⟨by simp only[qO];omega,by simp only[qO];omega⟩,BJ,?_,?_⟩,?_,?_⟩
 ·show(((_ / (s.aK*u.g)).toNat:Nat):Int)*(s.aK*u.g)=_
  rw[an,uw (by omega),aE,Int.mul_comm q,Kj,Int.mul_comm u.g,← Kj]
 ·show(_ / (s.aK*u.g)).toNat≤960
  rw[an];omega
 ·refine Int.dvd_add ?_ (O2 _ _)
  cases k with
  | zero=>exact Int.dvd_zero _
  | succ k=>exact O2 _ _
 ·exact O2 _ _
end Go.Proofs.YtogagakgmbkonaaGreat
