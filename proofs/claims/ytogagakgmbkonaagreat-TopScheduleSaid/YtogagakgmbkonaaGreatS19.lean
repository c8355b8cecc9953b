/- Part 19 of the proof of TopSchedule. -/
import Derived.Test.YtogagakgmbkonaaGreatS18
set_option linter.all false
set_option maxRecDepth 100000
set_option maxHeartbeats 4000000
namespace Go.Abs
open Go
variable{P:Program}{pol:c4}{K:eZ}{I:eY}{Z:hG}{D a5 D2:c8}{β a4 β2:dt}{w w' w0:World}{h ai:aj}{f:FuncId}{n dp:Nat}
def recAt(u:FrameMode)(v0:Value)(iN:FrameMode):Prop:=(u=.returning∧v0=.nilIface∧iN=.returning)∨∃ t v,u=.panicking [{ v:=.iface t v,recovered:=false }]∧v0=.iface t v∧iN=.panicking [{ v:=.iface t v,recovered:=true }]
theorem recAt.run{u iN:FrameMode}{v0:Value}(h:recAt u v0 iN){c:Frame}(af:c.mode=u):I7 v0=true∧u≠.run∧settle iN=.returning:=by
 rcases h with⟨rfl,rfl,rfl⟩|⟨t,v,rfl,rfl,rfl⟩
 ·exact⟨rfl,by simp,rfl⟩
 ·exact⟨rfl,by simp,rfl⟩
theorem ai8[cf]{g:FuncId}{md:Func}{i:Nat}{a3 a7:Oper}{rc:Code}{t4 t3:Tmp}(aI:P.funcs[g]? = some md)(ab:md.body=some (.seq (.region i #[a3,a7] false) rc))(rk:∀ ρ w,(execOp ρ a3).run P w=.ok .recover w)(uN:a3.guard=none)(jL:a3.dst=some t4)
  (h6:a7.op=.assign (.tmp t4)) (tv:a7.guard=none) (qg:a7.dst=some t3) (aB:t4<md.ntmps) (qp:md.results.toList=[]) (fm:∀ t,pol.dV g t=false) (o4:pol.lq g=false) (iG:u4 rc=true) {caps:List Value} {xh:List ah} (Q9:ir D β w caps xh) (hi:Inv Z D β h w) (eT:hH pol D w)
  {u iN:FrameMode} {v0:Value} (LG:recAt u v0 iN) {bz:Env} (q8:du P pol wo wm n g 0 rc (((xh++List.replicate (md.ntmps-xh.length) ah.dead).set t4 (.t (.aA v0))).set t3 (.t (.aA v0))) h=some (.normal,bz,ai))
  {gn:Ending→FrameMode→World→Prop} (bk:∀ a5 a4 w' v,Inv Z a5 a4 ai w'→hH pol a5 w'→Ext D β w a5 a4 w'→gn (.returned v) iN w'):CallsDIn (fu none) 0 P g caps.toArray u w gn:=by
 refine callsDIn_of_wpSIn aI ab trivial fun xk cs hm=>wpSIn_seq (wpSIn_region ?_)
 obtain⟨Lz,_,_⟩:=LG.run hm
 have Zl:=DD Q9 md.ntmps
 have cI:∀ lZ,Region.wanted a3 (yielded #[a3,a7] lZ)=true:=fun lZ=>by unfold Region.wanted;rw[uN]
 have dZ:∀ lZ,Region.wanted a7 (yielded #[a3,a7] lZ)=true:=fun lZ=>by unfold Region.wanted;rw[tv]
 have dn:t4<(caps.toArray++Array.replicate (md.ntmps-caps.toArray.size) undef).size:=by
  have:=Zl.1
  rw[this,gT,ic]
  exact w7 aB (by omega)
 obtain⟨cs',Eg,q9⟩:∃ cs',(match recoverD (xk::cs)with|some (v,cs')=>(v,cs')|none=>(.nilIface,xk::cs))=(v0,cs')∧cs'={ xk with mode:=iN }::cs:=by
  rcases LG with⟨rfl,rfl,rfl⟩|⟨t,v,rfl,rfl,rfl⟩
  ·refine⟨xk::cs,?_,?_⟩
   ·simp only[recoverD,hm]
   ·rw[show({ xk with mode:=.returning }:Frame)=xk by rw[← hm]]
  ·refine⟨_,?_,rfl⟩
   simp only[recoverD,hm]
 have key:∀(a:Act) (cs':List Frame),a.defers=[]→a.tmps=caps.toArray++Array.replicate (md.ntmps-caps.toArray.size) undef→cs'={ xk with mode:=iN }::cs →
   wpOpsSIn (fu none) 0 P #[a3,a7] (Exit.thenS (rc.wpSIn (fu none) 0 P (bodyPostS P md xk cs gn)) (bodyPostS P md xk cs gn)) [1] (a.put (some t4) v0) cs' w:=by
  intro a cs' amC iU amX
  simp only[wpOpsSIn,show(#[a3,a7]:Array Oper)[1]? = some a7 from rfl,dZ,cQ]
  refine⟨fun _ _=>trivial,?_⟩
  have xG:(a.put (some t4) v0).eval (.tmp t4)=v0:=by
   rw[← iU]at dn
   simp[Act.eval,Act.put,r6,yZ,dn]
  have aW:(execOp (a.put (some t4) v0).eval a7).run P w=.ok (.value v0) w:=by
   simp only[execOp,h6,xG,Sem.run_pure]
  rw[aW]
  show rc.wpSIn _ _ _ _ _ _ _
  refine ajh (ds:=[]) fm o4 rc iG q8 ⟨hi,?_,eT⟩ (by rw[tS,tS];exact amC) fun a5 a4 w' cb st aF U=>?_
  ·rw[qg]
   have ad:=Zl.set t4 (v:=v0) (x:=.t (.aA v0)) (.t _ _ (.aA _ Lz))
   have ag:=ad.set t3 (v:=v0) (x:=.t (.aA v0)) (.t _ _ (.aA _ Lz))
   rw[← iU]at ag
   exact ag
  ·obtain⟨v,az,_⟩:=Jk (P:=P) (fn:=md) (vs:=[]) (by rw[qp];rfl) st.env st.inv
   exact⟨aF,iN,amX,v,az,bk _ _ _ _ st.inv st.gK U⟩
 show wpOpsSIn _ _ _ _ _ [0,1] _ _ _
 rw[wpOpsSIn]
 simp only[show(#[a3,a7]:Array Oper)[0]? = some a3 from rfl,cI,cQ,rk]
 refine⟨fun _ _=>trivial,?_⟩
 split at Eg
 ·rename_i v aBG o5
  simp only[o5]
  cases Eg
  rw[jL]
  exact key _ _ rfl rfl q9
 ·rename_i o5
  simp only[o5]
  cases Eg
  rw[jL]
  exact key _ _ rfl rfl q9
def Fx:List Code→Code→Code
 | [],c=>c
 | a::kT,c=>.seq a (Fx kT c)
def nv(P:Program)(pol:c4)(K:eZ)(I:eY)(n:Nat)(f:FuncId)(dp:Nat):List Code→(aM→aj→Prop)→aM→aj→Prop
 | [],R,e,h=>R e h
 | c::cs,R,e,h=>iO P pol K I n f (eS P pol f dp 0 c) (fun x bs ai=>x=.normal∧nv P pol K I n f dp cs R bs ai) e h
theorem aey[cf]{ok:List (Nat × Nat)→Array Oper→Bool}(fq:∀ f c,cf.ok f c↔codeOk pol ok f c=true)(dD:l2 P pol K)(bK:j9 P pol I)(h3:sT P pol K I ok){M:sX}{rest:Code}{R:aM→aj→Prop}{Q:Exit→Act→World→Prop} :
  ∀(kT:List Code) {e:aM} {env:Env} {a:Act} {D:c8} {β:dt} {w:World} {h:aj},fI dp e env→nv P pol K I n f dp kT R e h→(∀ c∈kT,codeOk pol ok f c=true)→St pol Z M D β h w none a env→M.1≤w.heap.size →
   (∀ bs ai bz a5 a4 w' cb,R bs ai→fI dp bs bz→St pol Z M a5 a4 ai w' none cb bz→Ext D β w a5 a4 w'→rest.wpIn (fu none) 0 P Q cb w')→(Fx kT rest).wpIn (fu none) 0 P Q a w:=by
 intro kT
 induction kT with
 | nil=>intro e env a D β w h kG hw _ aS _ aw;exact aw e h env D β w a hw kG aS (.refl D β w)
 | cons c cs au =>
  intro e env a D β w h kG hw ck aS hK aw
  refine wpIn_seq (wy fq dD bK h3 kG hw (ck c (by simp)) aS hK fun x bs ai bz a5 a4 w' cb ex al tp U uU tE=>?_)
  obtain⟨rfl,al⟩:=al
  cases U
  exact au tp al (fun c af=>ck c (by simp[af])) uU (kP hK tE.size) fun P2 sj zq ny oe m6 r7 a3 a7 cz eJ=>aw P2 sj zq ny oe m6 r7 a3 a7 cz (tE.trans eJ)
structure Wz(P:Program)(f g:FuncId)(fn md:Func)(kT:List Code)(id:Nat)(hB h7:Oper)(caps:List Tmp)(d1:Tmp)(iR:Call)(rest:Code)(i:Nat)(a3 a7:Oper)(rc:Code)(t4 t3:Tmp)(rs:List (Nat × Option (Bool × Nat))):Prop where
 aI:P.funcs[f]? = some fn
 ab:fn.body=some (Fx kT (.seq (.region id #[hB,h7] false) rest))
 ad:hB.op=.makeFunc (.func g) #[] (caps.map Operand.tmp).toArray
 jL:hB.dst=some d1
 uN:hB.guard=none
 ag:h7.op=.defer iR
 dx:iR.callee=.value (.tmp d1)
 xD:iR.args = #[]
 qg:h7.dst=none
 tv:h7.guard=none
 aB:d1<fn.ntmps
 hh:uE P fn.results.toList=some rs
 nS:P.funcs[g]? = some md
 xr:md.body=some (.seq (.region i #[a3,a7] false) rc)
 YN:∀ ρ w,(execOp ρ a3).run P w=.ok .recover w
 Qy:a3.guard=none
 YG:a3.dst=some t4
 YO:a7.op=.assign (.tmp t4)
 YI:a7.guard=none
 YH:a7.dst=some t3
 YJ:t4<md.ntmps
 YP:md.results.toList=[]
 YM:u4 rc=true
 name:fn.name ≠ "runtime.NumGoroutine"
 YK:md.name ≠ "runtime.NumGoroutine"
def G0(dp:Nat)(xh:List ah)(t4 t3:Tmp)(v:Value):Env:=((xh++List.replicate (dp-xh.length) ah.dead).set t4 (.t (.aA v))).set t3 (.t (.aA v))
def akP(P:Program)(pol:c4)(n:Nat)(g:FuncId)(adz:Nat)(xh:List ah)(rc:Code)(t4 t3:Tmp)(rs:List (Nat × Option (Bool × Nat)))(r:T)(x:cW)(e:aM)(h:aj):Prop :=
 (x=.ret∧∃ hx ag,du P pol wo wm n g 0 rc (G0 adz xh t4 t3 .nilIface) h=some (.normal,hx,ag)∧∃ vs,jR e ag rs=some vs∧snap ag ez 20 (one vs)=some r) ∨
 (x=.panic∧∀ t v,∃ hx ag,du P pol wo wm n g 0 rc (G0 adz xh t4 t3 (.iface t v)) h=some (.normal,hx,ag)∧∃ vs,jR e ag rs=some vs∧snap ag ez 20 (one vs)=some r)
theorem aex{ok:List (Nat × Nat)→Array Oper→Bool}:∀(kT:List Code) (c:Code),codeOk pol ok f (Fx kT c)=true→(∀ x∈kT,codeOk pol ok f x=true)∧codeOk pol ok f c=true:=by
 intro kT
 induction kT with
 | nil=>intro c h;exact⟨fun x U=>by simp at U,h⟩
 | cons a kT au =>
  intro c h
  simp only[Fx,codeOk,fe]at h
  obtain⟨ad,ag⟩:=au c h.2
  refine⟨fun x U=>?_,ag⟩
  rcases iu.1 U with rfl|U
  ·exact h.1
  ·exact ad x U
theorem al1(cE:Sound P pol){g:FuncId}{fn md:Func}{kT:List Code}{id:Nat}{hB h7:Oper}{caps:List Tmp}{d1:Tmp}{iR:Call}{rest:Code}{i:Nat}{a3 a7:Oper}{rc:Code}{t4 t3:Tmp}{rs:List (Nat × Option (Bool × Nat))}(G:Wz P f g fn md kT id hB h7 caps d1 iR rest i a3 a7 rc t4 t3 rs)
  (fm:∀ t,pol.dV g t=false) (o4:pol.lq g=false) {aq:List T} {r:T} {d:Nat} {F:aM→aj→Prop} (Ek:aq.length≤fn.ntmps) (hQ:nv P pol (a0 P pol) (inl P pol (a0 P pol) n d) n f fn.ntmps kT F (pH (aq.map .t)) [])
  (uQ:∀ e h,F e h→iO P pol (a0 P pol) (inl P pol (a0 P pol) n d) n f (eS P pol f fn.ntmps 0 rest) (akP P pol n g md.ntmps (caps.map e) rc t4 t3 rs r) (eW e (some d1) .dead) h):rZ P pol f aq r:=by
 letI:cf:=⟨fun f c=>codeOk pol n3 f c=true⟩
 have fq:∀ f c,cf.ok f c↔codeOk pol n3 f c=true:=fun _ _=>Iff.rfl
 have dD:=A1 cE
 have h3:∀ I,j9 P pol I→sT P pol (a0 P pol) I n3:=fun I bK=>KG cE.mix dD bK
 have bK:=MW (n:=n) fq cE.prog dD h3 d
 have ck:=(cE.prog.fns f fn _ G.aI G.ab).1
 obtain⟨RQ,D8⟩:=aex _ _ ck
 simp only[codeOk,fe]at D8
 refine⟨⟨fn,_,G.aI,G.ab,G.name⟩,fun w D args aF ay dn lj=>?_⟩
 have hi:Inv { N:=w.heap.size,W:=w,D:=D } D (fun _ _=>none) [] w :=
  ⟨⟨bP _,fun _ _=>rfl,rfl,rfl,aF,fun b ab _=>ab,fun o e b k ab=>by simp at ab,fun o e b k cC bs bg ab=>by simp at ab,
   fun b ds ab bG=>absurd (lU ab) (by simp at bG ⊢;omega)⟩,fun o x U=>by simp at U,fun o e y ar=>by simp at ar⟩
 have jo:ir D (fun _ _=>none) w args.toList (aq.map .t):=Cu dn lj
 have rb:=DD jo fn.ntmps
 simp only[J9]at rb
 refine callsIn_of_wp_marks (F:=fu none) G.aI G.ab trivial ?_ rfl
 refine aey fq dD bK (h3 _ bK) (M:=(w.heap.size,[])) kT (KO (by simpa using Ek)) hQ RQ ⟨hi,rb,ay,.nil,fun l ao=>by simp at ao⟩ (bP _) fun aT ad eg jV β1 cI cJ eA xA hD dW=>?_
 have anW:cJ.tmps.size=fn.ntmps:=hD.env.1.trans xA.len
 have RH:(caps.map Operand.tmp).map cJ.eval=caps.map (fun c=>cJ.eval (.tmp c)):=by rw[Gi];rfl
 refine wpIn_seq (ajH (caps:=caps.map Operand.tmp) G.ad G.jL G.uN G.ag G.dx G.xD G.qg G.tv (by rw[anW];exact G.aB) ?_)
 rw[RH]
 have Q9:ir jV β1 cI (caps.map (fun c=>cJ.eval (.tmp c))) (caps.map aT):=by
  refine⟨by simp,fun i v x az U=>?_⟩
  rw[eE]at az U
  cases af:caps[i]? with
  | none=>rw[af]at az;cases az
  | some c =>
   rw[af]at az U
   cases az
   cases U
   have:=hD.rep (.tmp c)
   rw[show g7 pol eg (.tmp c)=aT c from xA.get c]at this
   exact this
 generalize caps.map (fun c=>cJ.eval (.tmp c))=GB at *
 refine wy fq dD bK (h3 _ bK) (M:=(cI.heap.size,{ target:=.fn (.func g) GB.toArray,args:=#[] }::cJ.defers)) (xA.put (d:=some d1) (by simp[oX];exact G.aB) .dead) (uQ aT ad eA) D8.2
  ⟨hD.inv,hD.env.put (some d1) (.dead _),hD.gK,⟨[],rfl,.nil,by simp⟩,fun l ao=>by simp at ao⟩ (bP _) fun x bs ai bz a5 a4 w' cb ex al tp U n9 mB=>?_
 obtain⟨yy,ajS,atX,f0⟩:=hD.marks
 obtain⟨Jn,GQ,I6,GU⟩:=n9.marks
 have fin:∀(u iN:FrameMode) (v0:Value),recAt u v0 iN→u≠.run→settle iN=.returning→(∃ hx ag,du P pol wo wm n g 0 rc (G0 md.ntmps (caps.map aT) t4 t3 v0) ai=some (.normal,hx,ag)∧∃ vs,jR bs ag rs=some vs∧snap ag ez 20 (one vs)=some r) →
   LeavesInM (fu none) 0 P fn cb.tmps (fun e w'=>∃ v,e=.returned v∧sU w w'∧eO (wk D w w') w' v r) cb.defers u w':=by
  rintro u iN v0 LG hu qq ⟨hx,ag,q8,vs,g9,ox⟩
  rw[GQ]
  refine M7 (Z:={ N:=w.heap.size,W:=w,D:=D }) (D:=a5) (β:=a4) (h:=ai) (env:=bz) (w0:=cI) (D2:=jV) (β2:=β1) hu dW.size (N:=cI.heap.size) (bP _) (fun w=>∀ q∈yy,w.heap[q]? = some (.deferred (some [])))
   (fun w q aE av hC BL=>(World.putObj_heap_other (fun e=>by have:=lU (f0 hC BL).2;omega)).trans (av hC BL)) (fun dZ Hy i2 c5 fo aj3=>?_) Jn w' I6 GU (fun q aE=>mB.defs q _ (f0 q aE).2) n9.inv n9.gK mB n9.env
  refine⟨hu,.inr ⟨fun aF=>by simp[fu,Fence.wide]at aF,.func g,GB.toArray,g,GB.toArray,rfl,?_,fun _ _=>trivial,?_⟩⟩
  ·simp only[invoke]
   rw[show(#[]++GB.toArray:Array Value)=GB.toArray by simp]
   exact yz ⟨md,_,G.nS,G.xr,G.YK⟩ _ dZ
  ·refine ai8 (n:=n) G.nS G.xr G.YN G.Qy G.YG G.YO G.YI G.YH G.YJ G.YP fm o4 G.YM (Q9.mono fo) i2 c5 LG q8 fun CV FO hE v i3 nR ps=>?_
   show LeavesInM _ _ _ _ _ _ cJ.defers (settle iN) hE
   rw[qq,ajS]
   refine M7 (Z:={ N:=w.heap.size,W:=w,D:=D }) (D:=CV) (β:=FO) (h:=ag) (env:=bz) (w0:=w) (D2:=D) (β2:=fun _ _=>none) (by simp) (bP _) (N:=w.heap.size) (bP _) (fun _=>True) (fun _ _ _ _=>trivial) (fun la _ i4 oY ub GP=>?_) yy hE atX
    (fun q aE=>⟨(f0 q aE).1,ps.defs q _ (Hy q aE)⟩) trivial i3 nR (dW.trans (fo.trans ps)) (aj3.mono ps)
   have qp:qa P bz ag fn.results.toList=some vs:=(NA tp G.hh).trans g9
   obtain⟨bU,az,vY⟩:=Jk (P:=P) qp GP i4
   refine⟨bU,az,bU,rfl,⟨i4.g.jS,i4.g.dy,i4.g.os,i4.g.out⟩,?_⟩
   have J:=CM (D2:=iy CV FO ez) (fun o x _ U=>i4.obj o x U) (fun b ab=>.inl ab) (fun o e b k av ab=>.inr ⟨o,e,k,av,ab⟩) 20 _ bU r ox vY
   have g:=i4.g.iy ez
   refine J.mono (fun b ab=>?_) (fun _ _=>rfl)
   by_cases ao:b<w.heap.size
   ·exact .inl (g.lM b ab ao)
   ·exact .inr ⟨by omega,g.hV b ab,fun ds ra=>(g.eU b ds ra (by simp;omega)).1 ab⟩
 rcases al with⟨rfl,al⟩|⟨rfl,al⟩
 ·cases U
  exact fin .returning .returning .nilIface (.inl ⟨rfl,rfl,rfl⟩) (by simp) rfl al
 ·obtain⟨br,⟨t,v,rfl⟩,rfl⟩:=U
  exact fin _ _ _ (.inr ⟨t,v,rfl,rfl,rfl⟩) (by simp) rfl (al t v)
end Go.Abs
namespace Go.Proofs.YtogagakgmbkonaaGreat
open Go Go.Abs
abbrev gN:T:=.aA (.slice none 0 0)
abbrev tf(c:c3):T:=.agg [I c.str,.aP false 4 (c.bM.map hq)]
def Cw:hU→T
 | .lq=>.ch [gN,gN,I 8]
 | .yes g _=>.ch [.aP false 1 (g.map I),gN,I 0]
 | .no aH=>.ch [gN,.aP false 2 (aH.map tf),I 4]
theorem UX{α AG:Type}{f:α→Option AG}:∀(es:List α) (aq:List AG),es.length=aq.length→(∀(i:Nat) x t,es[i]? = some x→aq[i]? = some t→f x=some t)→b5 f es=some aq:=by
 intro es
 induction es with
 | nil=>intro aq ao _;cases aq with|nil=>rfl|cons t aq=>simp at ao
 | cons x es au =>
  intro aq ao h
  cases aq with
  | nil=>simp at ao
  | cons t aq =>
   have ad:=h 0 x t rfl rfl
   have ag:=au aq (by simpa using ao) (fun i x t U ax=>h (i+1) x t (by simpa using U) (by simpa using ax))
   simp only[b5,ad,ag]
theorem ayx{g:List Int}{cZ:ah}{X:aj}(ay:xq g cZ X)(bo:g≠[])(cq ca cr M S:a9)(d:Nat):snap (cq::ca::cr::M::S::X) ez (d+2) cZ=some (.aP false 1 (g.map I)):=by
 rcases ay with h|⟨a,es,aG,rfl,fa,bN,nj,iB⟩
 ·exact absurd h bo
 ·have he:gU (cq::ca::cr::M::S::X) 1 (.ms (a+5) es.length 0 g.length 1 false)=some ((es.drop 0).take g.length):=by
   simp only[gU]
   rw[show(cq::ca::cr::M::S::X)[a+5]? = some (a9.row 1 es aG)from fa]
   simp only
   rw[a6 ⟨by first|rfl|trivial,bN,bP _,by omega⟩]
  have hm:b5 (snap (cq::ca::cr::M::S::X) ez (d+1)) ((es.drop 0).take g.length)=some (g.map I):=by
   refine UX _ _ (by simp;omega) fun i x t U ax=>?_
   rw[l6,l4]at U
   rw[eE]at ax
   cases az:g[i]? with
   | none=>rw[az]at ax;cases ax
   | some v =>
    rw[az]at ax
    cases ax
    rw[a6 (cD.1 az).1,iB i v az]at U
    cases U
    rfl
  simp only[snap,ez,cQ,he,hm]
theorem ayy{b:Nat}{aH:List c3}{c9:ah}{loc:Nat→Nat}{X:aj}(eB:px b aH c9 0 loc X)(eo:∀ br∈aH,br.bM≠[])(cq ca cr M S:a9)(d:Nat):snap (cq::ca::cr::M::S::X) ez (d+5) c9=some (.aP false 2 (aH.map tf)):=by
 obtain⟨rfl,⟨es,aG,fa,bN,jl,iB⟩,vQ,Bv,hlen,ie⟩:=eB
 have he:gU (cq::ca::cr::M::S::X) 2 (.ms (0+5) aH.length 0 aH.length 2 false)=some es:=by
  simp only[gU]
  rw[show(cq::ca::cr::M::S::X)[0+5]? = some (a9.row 2 es aG)from fa]
  simp only
  rw[a6 ⟨by first|rfl|trivial,by omega,by omega,by omega⟩,l6,l8 (by omega)]
 have hm:b5 (snap (cq::ca::cr::M::S::X) ez (d+4)) es=some (aH.map tf):=by
  refine UX _ _ (by simp[jl]) fun i x t U ax=>?_
  rw[eE]at ax
  cases az:aH[i]? with
  | none=>rw[az]at ax;cases ax
  | some br =>
   rw[az]at ax
   cases ax
   have af:=iB i br az
   rw[U]at af
   have aw:=eo br (gp az)
   rw[xi,a2 aw]at af
   cases af
   obtain⟨m,hm,me⟩:=vQ i br az aw
   have Lo:gU (cq::ca::cr::M::S::X) 4 (.ms (loc i+5) br.bM.length 0 br.bM.length 4 false)=some ((br.bM.map hq).map .t):=by
    simp only[gU]
    rw[show(cq::ca::cr::M::S::X)[loc i+5]? = some (a9.row 4 ((br.bM.map hq).map .t) m)from me]
    simp only
    rw[a6 ⟨by first|rfl|trivial,hm,by simp,by omega⟩,l6,l8 (by simp)]
   have iF:b5 (snap (cq::ca::cr::M::S::X) ez (d+2)) ((br.bM.map hq).map .t)=some (br.bM.map hq):=by
    refine UX _ _ (by simp) fun i x t U ax=>?_
    rw[eE,ax]at U
    cases U
    rfl
   simp only[snap,b5,ez,cQ,Lo,iF]
 simp only[snap,ez,cQ,he,hm]
theorem akb(p:b7)(bD:Nat)(ow:∀ x∈p.aK,1≤x):∀(k:Nat) (g:List Int) (aH b8:List c3),fx p bD k g aH=.no b8→∀ c,aH.length≤c→∀ br,b8[c]? = some br→br.bM≠[]:=by
 intro k
 induction k with
 | zero=>intro g aH b8 h;cases h
 | succ k au =>
  intro g aH b8 h
  rw[fx]at h
  split at h
  ·cases h
  ·have nj:∀(s:Int),1≤bT p s:=fun s=>by
    unfold bT
    cases J:p.aK[s.toNat]? with
    | none=>simp
    | some v=>simpa using ow v (gp J)
   generalize eA:gJ (fun x (_:Unit) b8=>ep p (decide (k=0)) (fx p bD k) aH.length g x b8) hU.no 0 (List.replicate (hb p g) ()) (aH++[⟨(g.length:Nat),[]⟩])=F at h
   cases F with
   | lq=>cases h
   | yes hX q=>cases h
   | no q =>
    have o0:∀(q:List c3) (a:eK) (c:Nat) br,(kQ q aH.length a)[c]? = some br→(c=aH.length∧br.bM≠[])∨(c≠aH.length∧q[c]? = some br):=fun q a c br af=>by
     by_cases he:c=aH.length
     ·left
      refine⟨he,?_⟩
      subst he
      cases aE:q[aH.length]? with
      | none=>rw[show kQ q aH.length a=q by unfold kQ;rw[aE],aE]at af;cases af
      | some x =>
       rw[Di aE]at af
       cases af
       exact Cb _ _
     ·right
      rw[A0 he]at af
      exact⟨he,af⟩
    have bK:=GV (step:=fun x b8=>ep p (decide (k=0)) (fx p bD k) aH.length g x b8) (N:=hb p g) (fun x q=>aH.length<q.length∧(∀ c,aH.length<c→∀ br,q[c]? = some br→br.bM≠[])∧(0<x→∀ br,q[aH.length]? = some br→br.bM≠[]))
     (fun x q ju _ hi J=>by
      simp only[ep]at J
      split at J
      ·split at J
       ·cases J
       ·split at J
        ·rename_i a3 al
         cases J
         obtain⟨uY,ry⟩:=KN p bD _ _ _ _ al
         refine⟨by rw[ke];omega,fun c af br dY=>?_,fun _ br dY=>?_⟩
         ·rcases o0 _ _ c br dY with⟨ad,_⟩|⟨_,ag⟩
          ·omega
          ·by_cases Re:c<q.length
           ·rw[ry c Re]at ag
            exact hi.2.1 c af br ag
           ·exact au _ _ _ al c (by omega) br ag
         ·rcases o0 _ _ _ br dY with⟨_,ag⟩|⟨ad,_⟩
          ·exact ag
          ·exact absurd rfl ad
        ·cases J
      ·cases J
       refine⟨by rw[ke];exact hi.1,fun c af br dY=>?_,fun _ br dY=>?_⟩
       ·rcases o0 _ _ c br dY with⟨ad,_⟩|⟨_,ag⟩
        ·omega
        ·exact hi.2.1 c af br ag
       ·rcases o0 _ _ _ br dY with⟨_,ag⟩|⟨ad,_⟩
        ·exact ag
        ·exact absurd rfl ad) (fun x q r J=>JA J) _ 0 _ (by omega) ⟨by simp,(fun c af br dY=>by
      rw[kb (by simp;omega)]at dY;cases dY),fun bo=>absurd bo (Nat.lt_irrefl 0)⟩ eA
    have anT:0<hb p g:=by
     unfold hb
     split
     ·omega
     ·have:=nj (g.length:Nat);omega
    simp only[DG,hU.no.injEq]at h
    subst h
    intro c af br dY
    have ie:∀ br,q[c]? = some br→br.bM≠[]:=fun br dY=>by
     by_cases he:c=aH.length
     ·rw[he]at dY;exact bK.2.2 anT br dY
     ·exact bK.2.1 c (by omega) br dY
    split at dY
    ·rcases o0 _ _ c br dY with⟨_,ag⟩|⟨_,ag⟩
     ·exact ag
     ·exact ie br ag
    ·exact ie br dY
noncomputable def nK(f:Nat):Code:=match Tryz.prog.funcs[f]? with
 | some fn=>(match fn.body with|some c=>c|none=>.skip)
 | none=>.skip
noncomputable def iz(f:Nat):Func:=(Tryz.prog.funcs[f]?).getD default
def n8:Code→Code
 | .seq a _=>a
 | c=>c
def fH:Code→Code
 | .seq _ b=>b
 | c=>c
def XI(o:Oper):Call:=match o.op with
 | .defer c=>c
 | .call c=>c
 | _=>default
noncomputable def Uo:C :=
 .gh ([
 aL 2 (.xf false (.v 0)),
 aL 4 (.de 1 b6),
 aL 5 (.de 1 b6),
 aL 6 (.de 1 aD)])
noncomputable def Up:C :=
 .seq (.gh ([
 bu 9 2 2,
 aL 10 (.call (dq 24) [(.v 9)]),
 aa 7 10]))<|
 .seq (.gh ([
 aa 11 7,
 aL 12 (.bin .neq false (.v 11) (bh 0))]))<|
 .cond (.v 12) (.seq (.gh ([
  aa 13 7,
  fP (.st 1 (.v 4) (.c b6)),
  fP (.st 1 (.v 5) (.c b6)),
  fP (.st 1 (.v 6) (.v 13))]))<|
  .ret) (.fM)
noncomputable def Uq:C :=
 .seq (.gh ([
 aa 14 1]++bc [1,2,4,5,6,14] ([
 aL 15 (.bin .lss false (.v 14) (bh 0)),
 aa 16 15,
 bd 17 16 false (.e9 (.v 1)),
 bd 18 16 false (.bin .gtr false (.v 17) (bh 1999)),
 aL 19 (.sL (.v 16) (ji true) (.v 18))])))<|
 .cond (.v 19) (.seq (.gh ([
  fP (.st 1 (.v 4) (.c b6)),
  fP (.st 1 (.v 5) (.c b6)),
  fP (.st 1 (.v 6) (bh 2))]))<|
  .ret) (.fM)
noncomputable def Ur:C :=
 .seq (.gh ([
 aQ 20 0 2,
 aX 21 1 20,
 aL 22 (.hj (.v 21)),
 aL 23 (.bin .eql false (.v 22) (bh 0))]))<|
 .cond (.v 23) (.seq (.gh ([
  fP (.st 1 (.v 4) (.c b6)),
  fP (.st 1 (.v 5) (.c b6))]++bc [4,5,6] ([
  fP (.st 1 (.v 6) (bh 0))])))<|
  .ret) (.fM)
noncomputable def EK:C :=
 .seq (.gh ([
 bu 25 2 2,
 aa 26 1,
 aL 27 (.raw (eF Tryz.prog 9 9 2)),
 aL 28 (.gF [b6,b6,aD,b6,b6,(.aA (.map none))] [(0,2,(.v 25)),(2,1,(.v 26)),(5,1,(.v 27))]),
 aL 29 (.xf true (.v 28)),
 aa 8 29]))<|
 .seq (.seq (.gh ([
 aa 30 8,
 aL 31 (.call (dq 26) [(.v 30),(bh 0)])]))<|
 .cond (.v 31) (.seq (.gh ([
  aa 32 8,
  aL 33 (.qC (.v 32)),
  aQ 34 3 33,
  aX 35 1 34,
  fP (.st 1 (.v 4) (.v 35)),
  fP (.st 1 (.v 5) (.c b6))]++bc [4,5,6] ([
  fP (.st 1 (.v 6) (bh 0))])))<|
  .ret) (.fM))<|
 .seq (.eV [(3,4)] ([
 aa 36 8,
 aL 37 (.qC (.v 36)),
 aQ 38 4 37,
 pv 39 38 (.fL false 1 (.v 38)),
 vo 4 (.st 1 (.v 4) (.c b6)),
 vo 5 (.st 1 (.v 5) (.v 39))]++bc [4,5,6] ([
 vo 6 (.st 1 (.v 6) (bh 4))])))<|
 .ret
noncomputable abbrev Xw:Code:=n8 (nK 9)
noncomputable abbrev Xx:Code:=n8 (fH (nK 9))
noncomputable abbrev Xy:Code:=n8 (fH (fH (nK 9)))
noncomputable abbrev Xz:Code:=n8 (fH (fH (fH (nK 9))))
noncomputable abbrev XA:Code:=fH (fH (fH (fH (fH (nK 9)))))
noncomputable abbrev PF:Code:=fH (nK 25)
theorem aru:eS Tryz.prog pol 9 (iz 9).ntmps 0 Xw=Uo:=by kernel_rfl
theorem arv:eS Tryz.prog pol 9 (iz 9).ntmps 0 Xx=Up:=by kernel_rfl
theorem arw:eS Tryz.prog pol 9 (iz 9).ntmps 0 Xy=Uq:=by kernel_rfl
theorem arx:eS Tryz.prog pol 9 (iz 9).ntmps 0 Xz=Ur:=by kernel_rfl
theorem ary:eS Tryz.prog pol 9 (iz 9).ntmps 0 XA=EK:=by kernel_rfl
theorem axH{o:Oper}{c:Call}(aC:o.op=.call c)(af:c.callee=.builtin .recover)(ae:c.args = #[])(ρ:Operand→Value)(w:World):(execOp ρ o).run Tryz.prog w=.ok .recover w:=by
 simp only[execOp,aC,resolve,af,Sem.run_bind,Sem.run_pure,Result.andThen,invoke,ae]
 rfl
theorem alT:Wz Tryz.prog 9 25 (iz 9) (iz 25) [Xw,Xx,Xy,Xz] 8 (eF Tryz.prog 9 8 0) (eF Tryz.prog 9 8 1) [4,5,6] 24 (XI (eF Tryz.prog 9 8 1)) XA 0 (eF Tryz.prog 25 0 0) (eF Tryz.prog 25 0 1) PF 4 3 [(4,some (false,1)),(5,some (false,1)),(6,some (false,1))] where
 aI:=by kernel_rfl
 ab:=by kernel_rfl
 ad:=by kernel_rfl
 jL:=by kernel_rfl
 uN:=by kernel_rfl
 ag:=by kernel_rfl
 dx:=by kernel_rfl
 xD:=by kernel_rfl
 qg:=by kernel_rfl
 tv:=by kernel_rfl
 aB:=by rw[show(iz 9).ntmps=40 from by kernel_rfl];decide
 hh:=by kernel_rfl
 nS:=by kernel_rfl
 xr:=by kernel_rfl
 YN:=axH (c:=XI (eF Tryz.prog 25 0 0)) (by kernel_rfl) (by kernel_rfl) (by kernel_rfl)
 Qy:=by kernel_rfl
 YG:=by kernel_rfl
 YO:=by kernel_rfl
 YI:=by kernel_rfl
 YH:=by kernel_rfl
 YJ:=by rw[show(iz 25).ntmps=7 from by kernel_rfl];decide
 YP:=by kernel_rfl
 YM:=by kernel_rfl
 name:=bne_iff_ne.mp (show ((iz 9).name != "runtime.NumGoroutine")=true from by kernel_rfl)
 YK:=bne_iff_ne.mp (show ((iz 25).name != "runtime.NumGoroutine")=true from by kernel_rfl)
abbrev m1(v:ah)(m:Nat):a9:=.row 1 [v] m
abbrev cG:List ah:=[.ref 0 1 0 0,.ref 1 1 0 0,.ref 2 1 0 0]
theorem XM(n:Nat)(h:aj):du Tryz.prog pol wo wm n 25 0 PF (G0 (iz 25).ntmps cG 4 3 .nilIface) h=some (.normal,cG++[.t (.aA .nilIface),.t (.aA .nilIface),.t (.aA .nilIface),.t (B false)],h):=by kernel_rfl
theorem ai7(n:Nat)(t:TypeId)(v:Value)(Y:aj):du Tryz.prog pol wo wm n 25 0 PF (G0 (iz 25).ntmps cG 4 3 (.iface t v)) (m1 (.t gN) 0::m1 (.t gN) 0::m1 (.t (I 0)) 0::Y)=some (.normal,cG++[.t (.aA (.iface t v)),.t (.aA (.iface t v)),.t (.aA (.iface t v)),.t (B true)],m1 (.t gN) 1::m1 (.t gN) 1::m1 (.t (I 8)) 1::Y):=by kernel_rfl
theorem VC{e:aM}(bL:e 4=.ref 0 1 0 0)(dC:e 5=.ref 1 1 0 0)(fQ:e 6=.ref 2 1 0 0)(a b c:ah)(ae:te a)(ab:te b)(af:te c)(rE fR gR:Nat)(hC:rE≤1)(a3:fR≤1)(a7:gR≤1)(Y:aj) :
  jR e (m1 a rE::m1 b fR::m1 c gR::Y) [(4,some (false,1)),(5,some (false,1)),(6,some (false,1))]=some [a,b,c]:=by
 simp[jR,bL,dC,fQ,rp,Go.Abs.rowAt,ve,hC,a3,a7,ae.1,ab.1,af.1]
theorem ak5{step:Nat→List c3→dQ (List c3) hU}{r:hU}(al:∀ q,r≠.no q):∀(m x:Nat) (aH:List c3),gJ (fun x (_:Unit) s=>step x s) hU.no x (List.replicate m ()) aH=r→∃ eX b8,step eX b8=.out r:=by
 intro m
 induction m with
 | zero=>intro x aH h;exact absurd h.symm (al _)
 | succ m au =>
  intro x aH h
  rw[pB]at h
  cases J:step x aH with
  | go q=>rw[ng (s':=q) J]at h;exact au _ _ h
  | out qG=>rw[q3 (r:=qG) J]at h;subst h;exact⟨x,aH,J⟩
theorem akd(p:b7)(bD:Nat):∀(k:Nat) (g:List Int) (aH:List c3) (hX:List Int) (b8:List c3),fx p bD k g aH=.yes hX b8→hX.length=g.length+k:=by
 intro k
 induction k with
 | zero=>intro g aH hX b8 h;cases h
 | succ k au =>
  intro g aH hX b8 h
  rw[fx]at h
  split at h
  ·cases h
  ·generalize eA:gJ (fun x (_:Unit) b8=>ep p (decide (k=0)) (fx p bD k) aH.length g x b8) hU.no 0 (List.replicate (hb p g) ()) (aH++[⟨(g.length:Nat),[]⟩])=F at h
   cases F with
   | lq=>cases h
   | no q=>cases h
   | yes c5 a7 =>
    cases h
    obtain⟨x,q,J⟩:=ak5 (step:=fun x b8=>ep p (decide (k=0)) (fx p bD k) aH.length g x b8) (fun q=>by simp) _ _ _ eA
    simp only[ep]at J
    split at J
    ·split at J
     ·rename_i an
      rw[ho]at an
      cases J
      simp[an]
     ·split at J
      ·cases J
      ·simp only[dQ.out.injEq]at J
       have:=au _ _ _ _ J
       simp at this
       omega
    ·cases J
theorem ayv{h:aj}{cZ:ah}{k:Nat}{xs:List T}(J:snap h ez 19 cZ=some (.aP false k xs)){b c:T}:snap h ez 20 (one [cZ,.t b,.t c])=some (.ch [.aP false k xs,b,c]):=by
 have ad:one [cZ,.t b,.t c]=oC [cZ,.t b,.t c]:=rfl
 rw[ad]
 unfold oC
 cases cZ with
 | t x =>
  rw[Jy]at J
  cases J
  rfl
 | _ =>
  simp only[e6]
  rw[snap]
  simp only[b5,J]
  rfl
theorem ayw{h:aj}{cZ:ah}{k:Nat}{xs:List T}(J:snap h ez 19 cZ=some (.aP false k xs)){b c:T}:snap h ez 20 (one [.t b,cZ,.t c])=some (.ch [b,.aP false k xs,c]):=by
 have ad:one [.t b,cZ,.t c]=oC [.t b,cZ,.t c]:=rfl
 rw[ad]
 unfold oC
 cases cZ with
 | t x =>
  rw[Jy]at J
  cases J
  rfl
 | _ =>
  simp only[e6]
  rw[snap]
  simp only[b5,J]
  rfl
section
variable(c1 c2:Bool)(p:b7)(h:jt p)(bD:Nat)(ni:bD≤1999)(aw:1≤p.aK.length)
include h ni aw
theorem ayC:rZ Tryz.prog pol 9 [g1 c1 c2 p,I (bD:Nat)] (Cw (fx p bD p.aK.length [] [])):=by
 have iG:=h.len
 obtain⟨aR,jn⟩:∃ aR,10000<aR:=⟨20000,by omega⟩
 obtain⟨bn,sn⟩:∃ bn:Nat,bn=bn:=⟨0,rfl⟩
 obtain⟨k,an⟩:∃ k,p.aK.length=k+1:=⟨p.aK.length-1,by omega⟩
 generalize dm:fx p bD p.aK.length [] []=F
 refine al1 sound alT (fun _=>rfl) rfl (n:=aR) (d:=bn+k+3) (F:=fun e aY=>(e 1=.t (I (bD:Nat))∧e 2=.t (.ip (j4 c1 c2 p))∧e 4=.ref 0 1 0 0∧e 5=.ref 1 1 0 0∧e 6=.ref 2 1 0 0)∧aY=[m1 (.t gN) 0,m1 (.t gN) 0,m1 (.t (I 0)) 0]) (by rw[show(iz 9).ntmps=40 from by kernel_rfl];show 2≤40;omega) ?_ ?_
 ·have bB:=Cp c1 c2 p h
  have d1:decide (((bD:Nat):Int)<0)=false:=bA (by omega)
  have d2:decide ((1999:Int)<((bD:Nat):Int))=false:=bA (by omega)
  have d3:decide (((p.aK.length:Nat):Int)=0)=false:=bA (by omega)
  rw[nv,aru]
  change c6 Tryz.prog pol (a0 Tryz.prog pol) (inl Tryz.prog pol (a0 Tryz.prog pol) aR (bn+k+3)) aR 9 Uo _ _ _
  simp only[Uo,go_sem]
  rw[nv,arv]
  change c6 Tryz.prog pol (a0 Tryz.prog pol) (inl Tryz.prog pol (a0 Tryz.prog pol) aR (bn+k+3)) aR 9 Up _ _ _
  simp only[Up,go_sem,bB]
  rw[nv,arw]
  change c6 Tryz.prog pol (a0 Tryz.prog pol) (inl Tryz.prog pol (a0 Tryz.prog pol) aR (bn+k+3)) aR 9 Uq _ _ _
  (repeat' first|simp only[Uq,go_sem,d1,d2]|with_reducible first|refine aZ fun _=>?_|refine a1 ?_|fail)
  rw[nv,arx]
  change c6 Tryz.prog pol (a0 Tryz.prog pol) (inl Tryz.prog pol (a0 Tryz.prog pol) aR (bn+k+3)) aR 9 Ur _ _ _
  simp only[Ur,go_sem,d3,bJ]
  rw[nv]
  refine⟨?_,rfl⟩
  simp only[go_sem]
 ·rintro e aY ⟨⟨aT,aW,cB,bZ,hW⟩,rfl⟩
  have amV:[4,5,6].map e=cG:=by simp only[gz,nB,cB,bZ,hW]
  rw[amV,ary]
  have Rk:=@X9 c1 c2 p h bD ni (m1 (.t gN) 0) (m1 (.t gN) 0) (m1 (.t (I 0)) 0) aR jn k (fun bo=>ake c1 c2 p h bD ni _ _ _ aR jn k bo) [] [] (by simpa using an.symm) (fun j v aU=>by simp at aU) 1 (.t gN) (.t gN) 0 [] [] (by omega) (fun k b ab=>by simp[gZ]at ab) (.inr ⟨rfl,rfl,rfl,rfl,rfl,rfl,rfl,rfl,rfl⟩) bn
  rw[show((([]:List Int).length:Nat):Int)=0 from rfl,← an,dm]at Rk
  simp only[cE,fk,nB]at Rk
  change c6 Tryz.prog pol (a0 Tryz.prog pol) (inl Tryz.prog pol (a0 Tryz.prog pol) aR (bn+k+3)) aR 9 EK _ _ _
  simp only[EK,go_sem,aT,aW,cB,bZ,hW]
  with_reducible refine Rk _ ?_ ?_ ?_
  ·intro hX b8 eA bS gL gS jf cw eH hm J
   have j2:=J.lf
   (repeat' first|simp only[EK,go_sem,aT,aW,cB,bZ,hW,hm,j2.1,j2.2]|with_reducible first|refine aZ fun _=>?_|refine a1 ?_|fail)
   subst eA
   have qi:hX≠[]:=fun bo=>by
    have:=akd p bD _ _ _ _ _ dm
    rw[bo]at this
    simp at this
    omega
   refine .inl ⟨rfl,_,_,XM aR _,_,VC ?_ ?_ ?_ gL (.t gN) (.t (I 0)) j2 ⟨rfl,rfl⟩ ⟨rfl,rfl⟩ 1 1 1 (bP _) (bP _) (bP _) _,?_⟩
   ·simp only[go_sem]
   ·simp only[go_sem]
   ·simp only[go_sem]
   ·have ox:=ayx J.g qi (m1 gL 1) (m1 (.t gN) 1) (m1 (.t (I 0)) 1) (.map (fk iJ iS eH)) (.row 6 [iX c1 c2 p bD gL gS] jf) 17
    exact ayv ox
  ·intro b8 eA bS gL gS jf cw eH hm hg _ J
   have fq:=J.gG
   (repeat' first|simp only[EK,go_sem,aT,aW,cB,bZ,hW,hm,fq.1,fq.2]|with_reducible first|refine aZ fun _=>?_|refine a1 ?_|fail)
   subst eA
   obtain⟨loc,av⟩:=J.p
   have eo:∀ br∈b8,br.bM≠[]:=fun br hm=>by
    obtain⟨c,af⟩:=Ka hm
    exact akb p bD (fun x U=>(h.aK x U).1) _ _ _ _ dm c (uv _) br af
   refine .inl ⟨rfl,_,_,XM aR _,_,VC ?_ ?_ ?_ (.t gN) gS (.t (I 4)) ⟨rfl,rfl⟩ fq ⟨rfl,rfl⟩ 1 1 1 (bP _) (bP _) (bP _) _,?_⟩
   ·simp only[go_sem]
   ·simp only[go_sem]
   ·simp only[go_sem]
   ·have ox:=ayy av eo (m1 (.t gN) 1) (m1 gS 1) (m1 (.t (I 4)) 1) (.map (fk iJ iS eH)) (.row 6 [iX c1 c2 p bD gL gS] jf) 14
    exact ayw ox
  ·intro eA Y
   simp only[EK,go_sem]
   subst eA
   refine .inr ⟨rfl,fun t v=>⟨_,_,ai7 aR t v Y,_,VC ?_ ?_ ?_ (.t gN) (.t gN) (.t (I 8)) ⟨rfl,rfl⟩ ⟨rfl,rfl⟩ ⟨rfl,rfl⟩ 1 1 1 (bP _) (bP _) (bP _) _,rfl⟩⟩
   ·simp only[go_sem,cB]
   ·simp only[go_sem,bZ]
   ·simp only[go_sem,hW]
end
end Go.Proofs.YtogagakgmbkonaaGreat
