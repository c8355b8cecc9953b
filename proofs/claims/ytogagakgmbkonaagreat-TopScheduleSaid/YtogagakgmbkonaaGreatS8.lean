/- Part 8 of the proof of TopSchedule. -/
import Derived.Test.YtogagakgmbkonaaGreatS7
set_option linter.all false
set_option maxRecDepth 100000
set_option maxHeartbeats 4000000
namespace Go.Abs
open Go
variable{P:Program}{pol:c4}{K:eZ}{I:eY}{f g:FuncId}{n m d l:Nat}{e:aM}{h:aj}{R:cW→aM→aj→Prop}{k:ah→aj→Prop}
theorem qd{p:Nat→Bool}{o:Nat}(aC:p o=false):dV h p (.bF o)=some (.bF o):=by
 simp only[dV,jk,cL,aC,qT,cQ]
def rD(m:Nat)(E:aM):List ah:=(List.range m).map E
def NB(R:cW→aM→aj→Prop):Option (Option Code)→Option (aM × aj)→Prop
 | some none,some (bs,ai)=>R .normal bs ai
 | some (some .ret),some (bs,ai)=>R .ret bs ai
 | some (some (.exit id)),some (bs,ai)=>R (.exit id) bs ai
 | _,_=>False
theorem axg{bs:aM}{ai:aj}:NB R (some none) (some (bs,ai))=R .normal bs ai:=(fun x=>x) rfl
theorem axh{bs:aM}{ai:aj}:NB R (some (some .ret)) (some (bs,ai))=R .ret bs ai:=(fun x=>x) rfl
def VE(cF:Nat)(e:aM)(R:cW→aM→aj→Prop)(_:ah)(ag:aj):Prop:=NB R (Cf ag cF) (iq cF e (ag.set cF .gone))
theorem axf{cF:Nat}{v:ah}{ag:aj}:VE cF e R v ag=NB R (Cf ag cF) (iq cF e (ag.set cF .gone)):=(fun x=>x) rfl
def VD(I:eY)(f:FuncId)(m:Nat)(live:Option (List Tmp))(params:List Tmp)(assign body:Code)(R:cW→aM→aj→Prop)(e:aM)(h:aj):Option g4→Prop
 | some (.call (.fn nS) args)=>ej (alive (I (.fn nS) args (h++[.loop f (rD m (eR live e)) params assign body false none]))) (VE h.length e R)
 | _=>False
theorem axe{live:Option (List Tmp)}{params:List Tmp}{assign body:Code}{nS:FuncId}{args:List ah}:VD I f m live params assign body R e h (some (.call (.fn nS) args)) =
  ej (alive (I (.fn nS) args (h++[.loop f (rD m (eR live e)) params assign body false none]))) (VE h.length e R):=(fun x=>x) rfl
theorem aiu{live:Option (List Tmp)}{gs:Src}{params:List Tmp}{assign body:Code}:c6 P pol K I n f (.wG m live gs params assign body) R e h=VD I f m live params assign body R e h (nH (gs.get e) [.bF h.length]):=by
 simp only[c6,iO,VD]
 generalize nH (gs.get e) [.bF h.length]=x
 rcases x with _|⟨_|_|⟨nS|_,args⟩⟩<;>rfl
def yd:Option a9→Option (Option Code)
 | some (.loop _ _ _ _ _ false p)=>some p
 | _=>none
theorem atd:Cf h l=yd (h[l]?):=by
 unfold Cf yd
 rcases h[l]? with _|⟨_|_|⟨_,_,_,_,_,b,_⟩|_⟩<;>rfl
theorem atf{env:List ah}{bO:List Tmp}{a b:Code}{p:Option Code}:yd (some (.loop f env bO a b false p))=some p:=(fun x=>x) rfl
def PV(m:Nat)(E:aM):aM:=fun t=>if t<m then E t else .dead
theorem XT{E:aM}{t:Nat}:PV m E t=if t<m then E t else .dead:=(fun x=>x) rfl
def Fy(E:aM):List (Tmp × ah)→aM
 | []=>E
 | (p,v)::r=>Fy (eW E (some p) v) r
theorem ax5{E:aM}:Fy E []=E:=(fun x=>x) rfl
theorem ax4{E:aM}{p:Tmp}{v:ah}{r:List (Tmp × ah)}:Fy E ((p,v)::r)=Fy (eW E (some p) v) r:=(fun x=>x) rfl
theorem agN(E:aM):fI m (PV m E) ((List.range m).map E):=by
 refine⟨by simp,fun t=>?_⟩
 rw[qU,eE,XT]
 by_cases ax:t<m
 ·simp[ax]
 ·rw[a2 ax,kb (by simp;omega)]
  rfl
theorem agO:∀(bO:List (Tmp × ah)) {E:aM} {env:Env},fI m E env→(∀ p∈bO,p.1<m)→fI m (Fy E bO) (CE env bO):=by
 intro bO
 induction bO with
 | nil=>intro E env ae _;exact ae
 | cons p r au =>
  obtain⟨t,v⟩:=p
  intro E env ae av
  have ad:oX m (some t)=true:=bY (av (t,v) (by simp))
  exact au (ae.put ad v) (fun p o3=>av p (by simp[o3]))
def Ku(k:aj→Prop):Option aj→Prop
 | some h=>k h
 | none=>False
theorem aih{q:aj→Prop}{h:aj}:Ku q (some h)=q h:=(fun x=>x) rfl
def JN(l:Nat)(k:ah→aj→Prop):cW→aM→aj→Prop:=fun x _ h=>match x with
 | .normal=>ej (pU h l none) k
 | .ret=>ej (pU h l (some .ret)) k
 | .exit id=>ej (pU h l (some (.exit id))) k
 | .panic=>False
theorem aBl:JN l k .normal e h=ej (pU h l none) k:=(fun x=>x) rfl
theorem aBm:JN l k .ret e h=ej (pU h l (some .ret)) k:=(fun x=>x) rfl
theorem aBk{id:Nat}:JN l k (.exit id) e h=ej (pU h l (some (.exit id))) k:=(fun x=>x) rfl
def Wr(P:Program)(pol:c4)(K:eZ)(n d:Nat)(g:FuncId)(l:Nat)(ki:C)(k:ah→aj→Prop):cW→aM→aj→Prop:=fun x e h=>match x with
 | .normal=>Ku (c6 P pol K (inl P pol K n d) n g ki (JN l k) e) (A9 h l)
 | _=>False
theorem aBj{ki:C}:Wr P pol K n d g l ki k .normal e h=Ku (c6 P pol K (inl P pol K n d) n g ki (JN l k) e) (A9 h l):=(fun x=>x) rfl
def PE(h:aj)(l:Nat):Option a9→Option aj
 | some (.loop f env params assign body false none)=>some (h.set l (.loop f env params assign body true none))
 | _=>none
theorem aia:A9 h l=PE h l (h[l]?):=by
 unfold A9 PE
 rcases h[l]? with _|⟨_|_|⟨_,_,_,_,_,b,p⟩|_⟩<;>rfl
theorem aii{env:List ah}{bO:List Tmp}{a b:Code}:PE h l (some (.loop f env bO a b false none))=some (h.set l (.loop f env bO a b true none)):=(fun x=>x) rfl
def LY(h:aj)(l:Nat)(j:Option Code):Option a9→Option (ah × aj)
 | some (.loop f env params assign body true none)=>some (.t (.aA (.bool j.isNone)),h.set l (.loop f env params assign body false j))
 | _=>none
theorem ao1{j:Option Code}:pU h l j=LY h l j (h[l]?):=by
 unfold pU LY
 rcases h[l]? with _|⟨_|_|⟨_,_,_,_,_,b,p⟩|_⟩<;>rfl
theorem aoZ{env:List ah}{bO:List Tmp}{a b:Code}:LY h l none (some (.loop f env bO a b true none))=some (.t (.aA (.bool true)),h.set l (.loop f env bO a b false none)):=(fun x=>x) rfl
theorem ao0{env:List ah}{bO:List Tmp}{a b c:Code}:LY h l (some c) (some (.loop f env bO a b true none))=some (.t (.aA (.bool false)),h.set l (.loop f env bO a b false (some c))):=(fun x=>x) rfl
theorem Cm{E:aM}{params:List Tmp}{assign body:Code}{args:List ah}{XB ki:C}(aC:h[l]? = some (.loop g (rD m E) params assign body false none))(ao:args.length=params.length)(av:(params.all fun p=>decide (p<m))=true)
  (ad:eS P pol g m 0 assign=XB) (ag:eS P pol g m 0 body=ki) (hw:c6 P pol K (inl P pol K n d) n g XB (Wr P pol K n d g l ki k) (Fy (PV m E) (params.zip args)) h):ej (inl P pol K n (d+1) (.bF l) args h) k:=by
 subst ad ag
 have RV:∀ p∈params.zip args,p.1<m:=fun p o3=>ka (jY.1 av p.1 (List.of_mem_zip o3).1)
 obtain⟨x,eg,ad,aT,a3,a7,cz⟩:=Oj assign (agO (params.zip args) (agN E) RV) hw
 simp only[inl,aC,rD]
 rw[a2 (by simp[ao]),a3]
 cases x with
 | normal =>
  simp only[Wr]at cz
  cases ab:A9 ad l with
  | none=>rw[ab]at cz;exact cz.elim
  | some qf =>
   rw[ab]at cz
   simp only[Ku]at cz
   obtain⟨y,hx,ag,aW,b9,b3,cG⟩:=Oj body a7 cz
   simp only[ab,b9]
   cases y with
   | normal=>exact cG
   | ret=>exact cG
   | exit id=>exact cG
   | panic=>exact cG.elim
 | exit id=>exact cz.elim
 | ret=>exact cz.elim
 | panic=>exact cz.elim
def Dn(p:Nat→Bool)(E:aM):List Tmp→Bool
 | []=>true
 | t::aq=>cL p (E t) && Dn p E aq
theorem ahd{p:Nat→Bool}{E:aM}:Dn p E []=true:=(fun x=>x) rfl
theorem Xi{p:Nat→Bool}{E:aM}{t:Tmp}{aq:List Tmp}:Dn p E (t::aq)=(cL p (E t) && Dn p E aq):=(fun x=>x) rfl
theorem ahc{p:Nat→Bool}{E:aM}:∀ {aq:List Tmp},Dn p E aq=true→∀ t∈aq,cL p (E t)=true:=by
 intro aq
 induction aq with
 | nil=>intro _ t ax;cases ax
 | cons s aq au =>
  intro h t ax
  rw[Xi,fe]at h
  cases ax with
  | head=>exact h.1
  | tail _ ax=>exact au h.2 t ax
theorem xo{av:aj}{p:Nat→Bool}{E:aM}{aq:List Tmp}{bO:List Tmp}{a b:Code}{busy:Bool}{pd:Option Code}(gX:Dn p E aq=true) :
  dk av p (.loop f (rD m (eR (some aq) E)) bO a b busy pd)=some (.loop f (rD m (eR (some aq) E)) bO a b busy pd):=by
 have key:∀ l:List Nat,dw p (l.map (eR (some aq) E))=true:=by
  intro l
  induction l with
  | nil=>simp[dw]
  | cons x l au =>
   rw[gz,dw,au,Ki]
   show cL p (if aq.contains x then E x else .dead)=true
   split
   ·rename_i af
    exact ahc gX x (by simpa using af)
   ·simp[cL]
 simp only[dk,rD,key,cQ]
end Go.Abs
