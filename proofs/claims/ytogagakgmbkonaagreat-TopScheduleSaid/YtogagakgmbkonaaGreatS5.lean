/- Part 5 of the proof of TopSchedule. -/
import Derived.Test.YtogagakgmbkonaaGreatS4
set_option linter.all false
set_option maxRecDepth 100000
set_option maxHeartbeats 4000000
namespace Go.Abs
open Go
variable{P:Program}{pol:c4}{K:eZ}{I:eY}{f:FuncId}{n m:Nat}{e:aM}{h:aj}{d:Option Tmp}{ew:yY}{op:rV}{r:List da}{Q:aM→aj→Prop}
def ej(x:Option (ah × aj))(k:ah→aj→Prop):Prop:=match x with|some (v,h)=>k v h|none=>False
def pN(x:Option (aM × aj))(k:aM→aj→Prop):Prop:=match x with|some (v,h)=>k v h|none=>False
def JE(x:Option (List ah))(k:List ah→Prop):Prop:=match x with|some v=>k v|none=>False
theorem aug(v:ah)(h:aj)(k:ah→aj→Prop):ej (some (v,h)) k=k v h:=(fun x=>x) rfl
theorem al6(v:aM)(h:aj)(k:aM→aj→Prop):pN (some (v,h)) k=k v h:=(fun x=>x) rfl
theorem aAy(v:List ah)(k:List ah→Prop):JE (some v) k=k v:=(fun x=>x) rfl
theorem alJ(t:Nat):Src.get e (.v t)=e t:=(fun x=>x) rfl
theorem alI(x:T):Src.get e (.c x)=.t x:=(fun x=>x) rfl
theorem az9(t:Nat)(v:ah)(s:Nat):eW e (some t) v s=if s=t then v else e s:=(fun x=>x) rfl
theorem aAa(v:ah):eW e none v=e:=(fun x=>x) rfl
theorem akl(t:Nat):pH [] t=.dead:=by simp[pH]
theorem akn(x:ah)(l:List ah):pH (x::l) 0=x:=(fun x=>x) rfl
theorem akm(x:ah)(l:List ah)(t:Nat):pH (x::l) (t+1)=pH l t:=by simp[pH]
inductive hl where
 | p
 | d
 | t (fj:List (Nat × Nat)) (acc:List (Option (List Nat)))
def hl.fits:hl→aj→aj→Prop
 | .p,_,_=>True
 | _,h,ai=>h.length≤ai.length
def hl.ee(pol:c4)(f:FuncId)(d:Option Tmp)(ew:yY)(e:aM)(h ai:aj):hl→hl
 | .t fj acc=>.t fj (sP (p3 pol f d e ew) h ai::acc)
 | m=>m
def hl.yB:hl→hl
 | .t fj acc=>.t fj (some []::acc)
 | m=>m
def hl.fin:hl→Prop
 | .t fj acc=>nO fj acc.reverse=true
 | _=>True
def hY(P:Program)(pol:c4)(K:eZ)(I:eY)(f:FuncId):hl→List da→(aM→aj→Prop)→aM→aj→Prop
 | L,[],Q,e,h=>L.fin∧Q e h
 | L,i::r,Q,e,h =>
  match pM e i.g with
  | some true=>match i.Qs with
   | none=>match n4 pol K I f i.dst h (cc P pol f e h i.op)with
    | some (v,ai)=>L.fits h ai∧hY P pol K I f (L.ee pol f i.dst i.ew e h ai) r Q (eW e i.dst v) ai
    | none=>False
   | some os=>L=.p∧match KY (reach h 20 (jF (ly e os))) e h with
    | some (aT,ad)=>match n4 pol K I f i.dst ad (cc P pol f aT ad i.op)with
     | some (v,ai)=>hY P pol K I f L r Q (eW aT i.dst v) ai
     | none=>False
    | none=>False
  | some false=>hY P pol K I f L.yB r Q (eW e i.dst (.t (.aA undef))) h
  | none=>False
theorem aA0:∀(l:List da) {Q:aM→aj→Prop} {e:aM} {h:aj},hY P pol K I f .p l Q e h=Go.Abs.wpOps P pol K I f l Q e h:=by
 intro l
 induction l with
 | nil=>intro Q e h;simp only[hY,hl.fin,zc];rfl
 | cons i r au =>
  intro Q e h
  simp only[hY,Go.Abs.wpOps,hl.fits,hl.ee,hl.yB,au,zc]
  rfl
theorem aAZ:∀(l:List da) {Q:aM→aj→Prop} {X:aM→aj→List (Option (List Nat))→Prop} {e:aM} {h:aj},(∀ e h aq,Q e h→X e h aq)→hY P pol K I f .d l Q e h→yO P pol K I f l X e h:=by
 intro l
 induction l with
 | nil=>intro Q X e h aE hw;exact aE _ _ _ hw.2
 | cons i r au =>
  intro Q X e h aE hw
  simp only[hY]at hw
  simp only[yO]
  split at hw
  ·rename_i ay
   simp only[ay]
   split at hw
   ·split at hw
    ·rename_i v ai al
     simp only[al]
     have:h.length≤ai.length:=hw.1
     rw[a2 (by omega)]
     exact au (fun e h aq aY=>aE _ _ _ aY) hw.2
    ·exact hw.elim
   ·exact absurd hw.1 (by simp)
  ·rename_i ay
   simp only[ay]
   exact au (fun e h aq aY=>aE _ _ _ aY) hw
  ·exact hw.elim
theorem aA5{fj:List (Nat × Nat)}:∀(l:List da) {acc:List (Option (List Nat))} {Q:aM→aj→Prop} {X:aM→aj→List (Option (List Nat))→Prop} {e:aM} {h:aj},(∀ e h aq,nO fj (acc.reverse++aq)=true→Q e h→X e h aq) →
  hY P pol K I f (.t fj acc) l Q e h→yO P pol K I f l X e h:=by
 intro l
 induction l with
 | nil=>intro acc Q X e h aE hw;exact aE _ _ _ (by have:nO fj acc.reverse=true:=hw.1;simpa using this) hw.2
 | cons i r au =>
  intro acc Q X e h aE hw
  simp only[hY]at hw
  simp only[yO]
  split at hw
  ·rename_i ay
   simp only[ay]
   split at hw
   ·split at hw
    ·rename_i v ai al
     simp only[al]
     have:h.length≤ai.length:=hw.1
     rw[a2 (by omega)]
     exact au (fun e h aq af aY=>aE _ _ _ (by simpa using af) aY) hw.2
    ·exact hw.elim
   ·exact absurd hw.1 (by simp)
  ·rename_i ay
   simp only[ay]
   exact au (fun e h aq af aY=>aE _ _ _ (by simpa using af) aY) hw
  ·exact hw.elim
def tP(P:Program)(pol:c4)(K:eZ)(I:eY)(f:FuncId)(L:hl)(d:Option Tmp)(ew:yY)(r:List da)(Q:aM→aj→Prop)(e:aM)(h:aj)(v:ah)(ai:aj):Prop :=
 L.fits h ai∧hY P pol K I f (L.ee pol f d ew e h ai) r Q (eW e d v) ai
def zn(c:Bool)(P:Program)(pol:c4)(K:eZ)(I:eY)(f:FuncId)(L:hl)(d:Option Tmp)(ew:yY)(op:rV)(r:List da)(Q:aM→aj→Prop)(e:aM)(h:aj):Prop :=
 if c then ej (n4 pol K I f d h (cc P pol f e h op)) (tP P pol K I f L d ew r Q e h)else hY P pol K I f L.yB r Q (eW e d (.t (.aA undef))) h
def q4(v:ah)(w:Bool)(P:Program)(pol:c4)(K:eZ)(I:eY)(f:FuncId)(L:hl)(d:Option Tmp)(ew:yY)(op:rV)(r:List da)(Q:aM→aj→Prop)(e:aM)(h:aj):Prop :=
 match v with
 | .t (.aA (.bool b))=>zn (b == w) P pol K I f L d ew op r Q e h
 | .t (.aA _)=>zn false P pol K I f L d ew op r Q e h
 | _=>False
theorem aA3:hY P pol K I f .p [] Q e h=Q e h:=by simp[hY,hl.fin]
theorem aA2:hY P pol K I f .d [] Q e h=Q e h:=by simp[hY,hl.fin]
theorem aA4{fj:List (Nat × Nat)}{acc:List (Option (List Nat))}:hY P pol K I f (.t fj acc) [] Q e h=(nO fj acc.reverse=true∧Q e h):=by simp[hY,hl.fin]
theorem aAY{L:hl}:hY P pol K I f L (⟨d,none,none,ew,op⟩::r) Q e h=ej (n4 pol K I f d h (cc P pol f e h op)) (tP P pol K I f L d ew r Q e h):=by
 simp only[hY,pM,ej,tP]
theorem aA1{L:hl}{t:Nat}{w:Bool}:hY P pol K I f L (⟨d,some (t,w),none,ew,op⟩::r) Q e h=q4 (e t) w P pol K I f L d ew op r Q e h:=by
 simp only[hY,pM,q4,zn]
 cases e t with
 | t x=>cases x with
  | aA v=>cases v with
   | bool b=>cases b<;>cases w<;>simp[ej,tP]
   | _=>rfl
  | _=>rfl
 | _=>rfl
theorem auD{v:ah}{ai:aj}:tP P pol K I f .p d ew r Q e h v ai=hY P pol K I f .p r Q (eW e d v) ai:=by simp[tP,hl.fits,hl.ee]
theorem auC{v:ah}{ai:aj}:tP P pol K I f .d d ew r Q e h v ai=(h.length≤ai.length∧hY P pol K I f .d r Q (eW e d v) ai):=by simp[tP,hl.fits,hl.ee]
theorem auE{fj:List (Nat × Nat)}{acc:List (Option (List Nat))}{v:ah}{ai:aj}:tP P pol K I f (.t fj acc) d ew r Q e h v ai =
  (h.length≤ai.length∧hY P pol K I f (.t fj (sP (p3 pol f d e ew) h ai::acc)) r Q (eW e d v) ai):=by simp[tP,hl.fits,hl.ee]
theorem ayb:hl.yB .p=.p:=(fun x=>x) rfl
theorem aya:hl.yB .d=.d:=(fun x=>x) rfl
theorem ayc{fj:List (Nat × Nat)}{acc:List (Option (List Nat))}:hl.yB (.t fj acc)=.t fj (some []::acc):=(fun x=>x) rfl
theorem ahX{L:hl}:zn true P pol K I f L d ew op r Q e h=ej (n4 pol K I f d h (cc P pol f e h op)) (tP P pol K I f L d ew r Q e h):=(fun x=>x) rfl
theorem ahV{L:hl}:zn false P pol K I f L d ew op r Q e h=hY P pol K I f L.yB r Q (eW e d (.t (.aA undef))) h:=(fun x=>x) rfl
theorem alx{L:hl}{b:Bool}:q4 (.t (.aA (.bool b))) true P pol K I f L d ew op r Q e h=zn b P pol K I f L d ew op r Q e h:=by simp[q4]
theorem alw{L:hl}{b:Bool}:q4 (.t (.aA (.bool b))) false P pol K I f L d ew op r Q e h=zn (!b) P pol K I f L d ew op r Q e h:=by cases b<;>simp[q4]
theorem aly{L:hl}{w:Bool}:q4 (.t (.aA undef)) w P pol K I f L d ew op r Q e h=hY P pol K I f L.yB r Q (eW e d (.t (.aA undef))) h:=(fun x=>x) rfl
theorem ahW{L:hl}{c:Bool}(ad:c=true→ej (n4 pol K I f d h (cc P pol f e h op)) (tP P pol K I f L d ew r Q e h))(ag:c=false→hY P pol K I f L.yB r Q (eW e d (.t (.aA undef))) h):zn c P pol K I f L d ew op r Q e h:=by
 cases c with
 | true=>exact ad rfl
 | false=>exact ag rfl
theorem azF{l:List Nat}{ai:aj}:sP (some l) h ai=some (l++List.range' h.length (ai.length-h.length)):=(fun x=>x) rfl
theorem azB{l:List Src}:p3 pol f d e (.eu l)=some ((ly e l).flatMap cl):=(fun x=>x) rfl
def N8(bQ:Bool)(args:List ah):Option (List T)→Option (List Nat)
 | some _=>some []
 | none=>if bQ=true then some (jF args)else none
theorem azx{bQ:Bool}{args:List ah}{aq:List T}:N8 bQ args (some aq)=some []:=(fun x=>x) rfl
theorem azw{bQ:Bool}{args:List ah}:N8 bQ args none=if bQ=true then some (jF args)else none:=(fun x=>x) rfl
def V5(pol:c4)(f:FuncId)(d:Option Tmp):Option g4→Option (List Nat)
 | some (.call (.fn k) args)=>if pol.inl k f (d.getD 0)then none else N8 (pol.fresh k f (d.getD 0)) args (e6 args)
 | _=>none
theorem azz{g:Src}{args:List Src}:p3 pol f d e (.oS g args)=V5 pol f d (nH (g.get e) (ly e args)):=by
 simp only[p3]
 rcases nH (g.get e) (ly e args)with _|⟨_|_|⟨_|_,xs⟩⟩
 ·rfl
 ·rfl
 ·rfl
 ·simp only[V5]
  split
  ·rfl
  ·cases e6 xs<;>rfl
 ·rfl
theorem azy{k:FuncId}{args:List ah}:V5 pol f d (some (.call (.fn k) args))=if pol.inl k f (d.getD 0)then none else N8 (pol.fresh k f (d.getD 0)) args (e6 args):=(fun x=>x) rfl
theorem auk{x:T}:cl (.t x)=[]:=(fun x=>x) rfl
theorem auj{o q i k:Nat}:cl (.ref o q i k)=[o]:=(fun x=>x) rfl
theorem aui{o q i l k:Nat}{c:Bool}:cl (.ms o q i l k c)=[o]:=(fun x=>x) rfl
theorem auh{o:Nat}:cl (.mp o)=[o]:=(fun x=>x) rfl
section
variable{R:cW→aM→aj→Prop}{a b c:C}
def E0(R:cW→aM→aj→Prop)(e:aM)(h:aj):Prop:=R .normal e h
theorem aua:E0 R e h=R .normal e h:=(fun x=>x) rfl
def c6(P:Program)(pol:c4)(K:eZ)(I:eY)(n:Nat)(f:FuncId)(c:C)(R:cW→aM→aj→Prop)(e:aM)(h:aj):Prop:=iO P pol K I n f c R e h
def Jv(Y:aM→aj→Prop)(R:cW→aM→aj→Prop):cW→aM→aj→Prop:=fun x e h=>match x with
 | .normal=>Y e h
 | .exit id=>R (.exit id) e h
 | .ret=>R .ret e h
 | .panic=>R .panic e h
theorem ax0{Y:aM→aj→Prop}:Jv Y R .panic e h=R .panic e h:=(fun x=>x) rfl
theorem axZ{Y:aM→aj→Prop}:Jv Y R .normal e h=Y e h:=(fun x=>x) rfl
theorem axY{Y:aM→aj→Prop}{id:Nat}:Jv Y R (.exit id) e h=R (.exit id) e h:=(fun x=>x) rfl
theorem ax1{Y:aM→aj→Prop}:Jv Y R .ret e h=R .ret e h:=(fun x=>x) rfl
def Gv(id:Nat)(R:cW→aM→aj→Prop):cW→aM→aj→Prop:=fun x e h=>match x with
 | .exit j=>if j=id then R .normal e h else R (.exit j) e h
 | .normal=>R .normal e h
 | .ret=>R .ret e h
 | .panic=>R .panic e h
theorem ahN{id:Nat}:Gv id R .panic e h=R .panic e h:=(fun x=>x) rfl
theorem ahM{id:Nat}:Gv id R .normal e h=R .normal e h:=(fun x=>x) rfl
theorem ahO{id:Nat}:Gv id R .ret e h=R .ret e h:=(fun x=>x) rfl
theorem ahL{id j:Nat}:Gv id R (.exit j) e h=if j=id then R .normal e h else R (.exit j) e h:=(fun x=>x) rfl
def ru(cF:Nat)(Y:aM→aj→Prop)(R:cW→aM→aj→Prop):cW→aM→aj→Prop:=fun x e h=>match x with
 | .normal=>pN (iq cF e h) Y
 | .exit id=>R (.exit id) e h
 | .ret=>R .ret e h
 | .panic=>R .panic e h
theorem asd{cF:Nat}{Y:aM→aj→Prop}:ru cF Y R .panic e h=R .panic e h:=(fun x=>x) rfl
theorem asc{cF:Nat}{Y:aM→aj→Prop}:ru cF Y R .normal e h=pN (iq cF e h) Y:=(fun x=>x) rfl
theorem asb{cF:Nat}{Y:aM→aj→Prop}{id:Nat}:ru cF Y R (.exit id) e h=R (.exit id) e h:=(fun x=>x) rfl
theorem ase{cF:Nat}{Y:aM→aj→Prop}:ru cF Y R .ret e h=R .ret e h:=(fun x=>x) rfl
def A8(c:Bool)(P:Program)(pol:c4)(K:eZ)(I:eY)(n:Nat)(f:FuncId)(a b:C)(R:cW→aM→aj→Prop)(e:aM)(h:aj):Prop :=
 if c then c6 P pol K I n f a R e h else c6 P pol K I n f b R e h
def PI(v:ah)(P:Program)(pol:c4)(K:eZ)(I:eY)(n:Nat)(f:FuncId)(a b:C)(R:cW→aM→aj→Prop)(e:aM)(h:aj):Prop :=
 match v with
 | .t (.aA (.bool c))=>A8 c P pol K I n f a b R e h
 | _=>False
theorem aij{t:Bool}:PI (.t (.aA (.bool t))) P pol K I n f a b R e h=A8 t P pol K I n f a b R e h:=(fun x=>x) rfl
theorem ahU:A8 true P pol K I n f a b R e h=c6 P pol K I n f a R e h:=(fun x=>x) rfl
theorem ahS:A8 false P pol K I n f a b R e h=c6 P pol K I n f b R e h:=(fun x=>x) rfl
theorem ahT{t:Bool}(ad:t=true→c6 P pol K I n f a R e h)(ag:t=false→c6 P pol K I n f b R e h):A8 t P pol K I n f a b R e h:=by
 cases t with
 | true=>exact ad rfl
 | false=>exact ag rfl
theorem aip:c6 P pol K I n f .fM R e h=R .normal e h:=(fun x=>x) rfl
theorem aiw:c6 P pol K I n f (.seq a b) R e h=c6 P pol K I n f a (Jv (c6 P pol K I n f b R) R) e h:=(fun x=>x) rfl
theorem ail{x:Src}:c6 P pol K I n f (.cond x a b) R e h=PI (x.get e) P pol K I n f a b R e h:=by
 simp only[c6,iO,PI,A8]
 cases x.get e with
 | t x=>cases x with
  | aA v=>cases v<;>rfl
  | _=>rfl
 | _=>rfl
theorem aik{id:Nat}:c6 P pol K I n f (.block id c) R e h=c6 P pol K I n f c (Gv id R) e h:=(fun x=>x) rfl
theorem ain{live:Option (List Tmp)}:c6 P pol K I n f (.loop live c) R e h=gP h.length live (c6 P pol K I n f c) R n e h:=(fun x=>x) rfl
theorem aio{live:Option (List Tmp)}:c6 P pol K I n f (.Ce live c) R e h=gP (h.length+1000000) live (c6 P pol K I n f c) R n e h:=(fun x=>x) rfl
def yk(P:Program)(pol:c4)(K:eZ)(I:eY)(f:FuncId)(d:Option Tmp)(r:List da)(R:cW→aM→aj→Prop)(e:aM)(v:ah)(ai:aj):Prop:=kv P pol K I f r R (eW e d v) ai
def wM(P:Program)(pol:c4)(K:eZ)(I:eY)(f:FuncId)(d:Option Tmp)(r:List da)(R:cW→aM→aj→Prop)(e:aM)(h:aj):Option g4→Prop
 | some (.call (.fn g) args)=>if(pol.inl g f (d.getD 0) && !u7 pol g args)=true then ej (I (.fn g) args h) (Ah pol g h (fun ai=>R .panic e ai) (yk P pol K I f d r R e))
  else ej (n4 pol K I f d h (some (.call (.fn g) args))) (yk P pol K I f d r R e)
 | x=>ej (n4 pol K I f d h x) (yk P pol K I f d r R e)
def Qv(c:ah)(w:Bool)(P:Program)(pol:c4)(K:eZ)(I:eY)(f:FuncId)(d:Option Tmp)(op:rV)(r:List da)(R:cW→aM→aj→Prop)(e:aM)(h:aj):Prop :=
 match c with
 | .t (.aA (.bool b))=>if(b == w)=true then wM P pol K I f d r R e h (cc P pol f e h op)else kv P pol K I f r R (eW e d (.t (.aA undef))) h
 | .t (.aA _)=>kv P pol K I f r R (eW e d (.t (.aA undef))) h
 | _=>False
section
variable{d:Option Tmp}{r:List da}{op:rV}{l:List Src}
theorem auA:kv P pol K I f [] R e h=R .normal e h:=(fun x=>x) rfl
theorem auB:kv P pol K I f (⟨d,none,none,.any,op⟩::r) R e h=R .panic (eW e d .dead) h:=(fun x=>x) rfl
theorem adF:kv P pol K I f (⟨d,none,none,.eu l,op⟩::r) R e h=wM P pol K I f d r R e h (cc P pol f e h op):=by
 simp only[kv,pM,wM,ej,yk]
 rcases cc P pol f e h op with _|x
 ·rfl
 ·cases x with
  | call g args=>cases g<;>rfl
  | _=>rfl
theorem auz{t:Nat}{w:Bool}:kv P pol K I f (⟨d,some (t,w),none,.eu l,op⟩::r) R e h=Qv (e t) w P pol K I f d op r R e h:=by
 rw[kv]
 simp only[pM,Qv]
 cases e t with
 | t x=>cases x with
  | aA v=>cases v with
   | bool b =>
    have:=adF (P:=P) (pol:=pol) (K:=K) (I:=I) (f:=f) (R:=R) (e:=e) (h:=h) (d:=d) (r:=r) (op:=op) (l:=l)
    simp only[kv,pM]at this
    cases ab:(b == w)with
    | false=>simp only[ab,fJ,et]
    | true =>
     simp only[ab,cQ]
     exact this
   | _=>rfl
  | _=>rfl
 | _=>rfl
theorem alA{b w:Bool}:Qv (.t (.aA (.bool b))) w P pol K I f d op r R e h=if(b == w)=true then wM P pol K I f d r R e h (cc P pol f e h op)else kv P pol K I f r R (eW e d (.t (.aA undef))) h:=(fun x=>x) rfl
theorem ayZ{v:ah}{ai:aj}:wM P pol K I f d r R e h (some (.val v ai))=yk P pol K I f d r R e v ai:=(fun x=>x) rfl
theorem ayY{ai:aj}:wM P pol K I f d r R e h (some (.skip ai))=yk P pol K I f d r R e (.t (.aA undef)) ai:=(fun x=>x) rfl
theorem ayW{g:FuncId}{args:List ah}(hi:pol.inl g f (d.getD 0)=true)(av:u7 pol g args=false):wM P pol K I f d r R e h (some (.call (.fn g) args))=ej (I (.fn g) args h) (Ah pol g h (fun ai=>R .panic e ai) (yk P pol K I f d r R e)):=by
 simp only[wM,hi,av,qT,uu,cQ]
theorem ayX{g:FuncId}{args:List ah}(hi:pol.inl g f (d.getD 0)=false):wM P pol K I f d r R e h (some (.call (.fn g) args))=ej (iw pol K I f (d.getD 0) (.fn g) args h) (yk P pol K I f d r R e):=by
 simp only[wM,hi,vw,fJ,et,n4]
theorem auF{v:ah}{ai:aj}:yk P pol K I f d r R e v ai=kv P pol K I f r R (eW e d v) ai:=(fun x=>x) rfl
theorem ais{l:List da}:c6 P pol K I n f (.gh l) R e h=kv P pol K I f l R e h:=(fun x=>x) rfl
end
theorem aim{id:Nat}:c6 P pol K I n f (.exit id) R e h=R (.exit id) e h:=(fun x=>x) rfl
theorem aiv:c6 P pol K I n f .ret R e h=R .ret e h:=(fun x=>x) rfl
theorem aiq{l:List da}:c6 P pol K I n f (.ops l) R e h=hY P pol K I f .p l (E0 R) e h:=(aA0 l).symm
theorem air{l:List da}(hw:hY P pol K I f .d l (E0 R) e h):c6 P pol K I n f (.eV [] l) R e h:=aAZ l (fun e h aq aY=>⟨rfl,aY⟩) hw
theorem ait{fj:List (Nat × Nat)}{l:List da}(hw:hY P pol K I f (.t fj []) l (E0 R) e h):c6 P pol K I n f (.eV fj l) R e h:=aA5 l (fun e h aq af aY=>⟨by simpa using af,aY⟩) hw
theorem IM{cF:Nat}{live:Option (List Tmp)}{body:(cW→aM→aj→Prop)→aM→aj→Prop}{k:Nat} :
  gP cF live body R (k+1) e h=body (ru cF (gP cF live body R k) R) (eR live e) h:=by
 simp only[gP]
 congr 1
theorem azu{aq:List Tmp}{t:Nat}:eR (some aq) e t=if aq.contains t then e t else .dead:=(fun x=>x) rfl
theorem ax9{cF:Nat}(ao:h.length≤cF):iq cF e h=some (e,h):=by simp[iq,ao]
end
def Jm(Q:ah→aj→Prop)(h:aj)(vs:List ah):Prop:=u1 Q (one vs) h
theorem axC{Q:ah→aj→Prop}{vs:List ah}:Jm Q h vs=u1 Q (one vs) h:=(fun x=>x) rfl
section
variable{Q:ah→aj→Prop}
theorem atm{x:T}:u1 Q (.t x) h=Q (.t x) h:=(fun x=>x) rfl
theorem atj{x:List ah}:u1 Q (.agg x) h=Q (.agg x) h:=(fun x=>x) rfl
theorem atn{x:List ah}:u1 Q (.ch x) h=Q (.ch x) h:=(fun x=>x) rfl
theorem atl{o q i l k:Nat}{c:Bool}:u1 Q (.ms o q i l k c) h=Q (.ms o q i l k c) h:=(fun x=>x) rfl
theorem atk{g:Fn}{a b:List ah}:u1 Q (.fn g a b) h=Q (.fn g a b) h:=(fun x=>x) rfl
theorem aue{x:Option (ah × aj)}:ej (alive x) Q=ej x (u1 Q):=by
 cases x with
 | none=>rfl
 | some y=>obtain⟨v,h⟩:=y;cases v<;>rfl
def yJ(h:aj)(Q:ah→aj→Prop)(v:ah)(ag:aj):Prop :=
 match v with
 | .t x=>pN (iq h.length (fun _=>.dead) ag) (fun _ aJ=>Q (.t x) aJ)
 | _=>False
theorem ae1{x:T}{ag:aj}:yJ h Q (.t x) ag=pN (iq h.length (fun _=>.dead) ag) (fun _ aJ=>Q (.t x) aJ):=(fun x=>x) rfl
theorem U8{x:Option (ah × aj)}:ej (pr true h x) Q=ej x (yJ h Q):=by
 cases x with
 | none=>rfl
 | some y =>
  obtain⟨v,ag⟩:=y
  cases v<;>try rfl
  rename_i x
  show ej (pr true h (some (.t x,ag))) Q=yJ h Q (.t x) ag
  simp only[pr,cQ,yJ,shrink,iq]
  by_cases ao:ag.length≤h.length
  ·simp only[a6 ao,ej,pN]
  ·simp only[a2 ao]
   cases b5 (dk ag (bV h.length)) (ag.take h.length)<;>simp only[ej,pN]
theorem auX{pol:c4}{g:FuncId}{yX:aj→Prop}{ag:aj}:Ah pol g h yX Q .dead ag=yX ag:=(fun x=>x) rfl
theorem auZ{pol:c4}{g:FuncId}{yX:aj→Prop}{x:T}{ag:aj}(ax:pol.trim g=false):Ah pol g h yX Q (.t x) ag=Q (.t x) ag:=by
 simp only[Ah,ax,pr,fJ,et]
theorem adK{pol:c4}{g:FuncId}{yX:aj→Prop}{x:T}{ag:aj}(ax:pol.trim g=true):Ah pol g h yX Q (.t x) ag=yJ h Q (.t x) ag:=by
 have:=@U8 h Q (some (.t x,ag))
 rw[ej]at this
 rw[← show ej (some (.t x,ag)) (yJ h Q)=yJ h Q (.t x) ag from rfl,← U8]
 simp only[Ah,ax]
 cases pr true h (some (.t x,ag))<;>rfl
end
def xl(rs:List (Nat × Option (Bool × Nat)))(Q:ah→aj→Prop):cW→aM→aj→Prop:=fun x e h=>match x with
 | .exit _=>False
 | .panic=>Q .dead h
 | _=>match jR e h rs with
  | some vs=>u1 Q (one vs) h
  | none=>False
theorem aj8{rs:List (Nat × Option (Bool × Nat))}{Q:ah→aj→Prop}:xl rs Q .panic e h=Q .dead h:=(fun x=>x) rfl
theorem aj9{rs:List (Nat × Option (Bool × Nat))}{Q:ah→aj→Prop}:xl rs Q .ret e h=JE (jR e h rs) (Jm Q h):=by simp only[xl,JE,Jm]
theorem aj7{rs:List (Nat × Option (Bool × Nat))}{Q:ah→aj→Prop}:xl rs Q .normal e h=JE (jR e h rs) (Jm Q h):=by simp only[xl,JE,Jm]
theorem auw(v:ah):one [v]=v:=(fun x=>x) rfl
theorem auy(v w:ah)(l:List ah):one (v::w::l)=oC (v::w::l):=(fun x=>x) rfl
theorem axF(v:ah)(ai:aj):n4 pol K I f d h (some (.val v ai))=some (v,ai):=(fun x=>x) rfl
theorem axE(ai:aj):n4 pol K I f d h (some (.skip ai))=some (.t (.aA undef),ai):=(fun x=>x) rfl
theorem axD(g:sY)(args:List ah):n4 pol K I f d h (some (.call g args))=iw pol K I f (d.getD 0) g args h:=(fun x=>x) rfl
theorem aAz(v:ah):fB h (some v)=some (.val v h):=(fun x=>x) rfl
theorem amy(ai:aj):q6 (some ai)=some (.skip ai):=(fun x=>x) rfl
theorem aAD(v:ah)(ai:aj):Og (some (v,ai))=some (.val v ai):=(fun x=>x) rfl
theorem ahy{hr:Bool}{k:IntKind}{x y:Int}:jD .add hr (.t (.aA (.int k x))) (.t (.aA (.int k y)))=some (.t (.aA (.int k (k.wrap (x+y))))):=by simp[jD]
theorem ahK{hr:Bool}{k:IntKind}{x y:Int}:jD .sub hr (.t (.aA (.int k x))) (.t (.aA (.int k y)))=some (.t (.aA (.int k (k.wrap (x-y))))):=by simp[jD]
theorem ahG{hr:Bool}{k:IntKind}{x y:Int}:jD .mul hr (.t (.aA (.int k x))) (.t (.aA (.int k y)))=some (.t (.aA (.int k (k.wrap (x*y))))):=by simp[jD]
theorem ahB{hr:Bool}{k:IntKind}{x y:Int}:jD .eql hr (.t (.aA (.int k x))) (.t (.aA (.int k y)))=some (.t (.aA (.bool (decide (x=y))))):=by simp[jD,kg]
theorem ahH{hr:Bool}{k:IntKind}{x y:Int}:jD .neq hr (.t (.aA (.int k x))) (.t (.aA (.int k y)))=some (.t (.aA (.bool (!decide (x=y))))):=by simp[jD,kg]
theorem ahF{hr:Bool}{k:IntKind}{x y:Int}:jD .lss hr (.t (.aA (.int k x))) (.t (.aA (.int k y)))=some (.t (.aA (.bool (decide (x<y))))):=by simp[jD,kg]
theorem ahE{hr:Bool}{k:IntKind}{x y:Int}:jD .leq hr (.t (.aA (.int k x))) (.t (.aA (.int k y)))=some (.t (.aA (.bool (decide (x≤y))))):=by simp[jD,kg]
theorem ahD{hr:Bool}{k:IntKind}{x y:Int}:jD .gtr hr (.t (.aA (.int k x))) (.t (.aA (.int k y)))=some (.t (.aA (.bool (decide (y<x))))):=by simp[jD,kg]
theorem ahC{hr:Bool}{k:IntKind}{x y:Int}:jD .geq hr (.t (.aA (.int k x))) (.t (.aA (.int k y)))=some (.t (.aA (.bool (decide (y≤x))))):=by simp[jD,kg]
theorem ahz{x y:Bool}:jD .eql true (.t (.aA (.bool x))) (.t (.aA (.bool y)))=some (.t (.aA (.bool (x == y)))):=by simp[jD,kg]
theorem ahA{x y:Bool}:jD .neq true (.t (.aA (.bool x))) (.t (.aA (.bool y)))=some (.t (.aA (.bool (x != y)))):=by simp[jD,kg]
theorem ahJ{hr:Bool}{k:IntKind}{x y:Int}:jD .rem hr (.t (.aA (.int k x))) (.t (.aA (.int k y)))=if y=0 then none else some (.t (.aA (.int k (x.tmod y)))):=by simp[jD]
theorem ahI{hr:Bool}{k:IntKind}{x y:Int}:jD .quo hr (.t (.aA (.int k x))) (.t (.aA (.int k y)))=if y=0 then none else some (.t (.aA (.int k (k.wrap (x.tdiv y))))):=by simp[jD]
theorem aub(b:Bool):LX (.t (.aA (.bool b)))=some (.t (.aA (.bool !b))):=(fun x=>x) rfl
theorem aju{k bg:IntKind}{x:Int}:LV k (.t (.aA (.int bg x)))=some (.t (.aA (.int k (k.wrap x)))):=(fun x=>x) rfl
theorem au7{c x y:Bool}:zV (.t (.aA (.bool c))) (.t (.aA (.bool x))) (.t (.aA (.bool y)))=some (.t (.aA (.bool (if c then x else y)))):=(fun x=>x) rfl
theorem au9{x y:ah}:zV (.t (.aA (.bool true))) x y=some x:=by simp only[zV];split<;>simp_all [kg]
theorem au8{x y:ah}:zV (.t (.aA (.bool false))) x y=some y:=by simp only[zV];split<;>simp_all [kg]
theorem atb{b:Bool}{k:Nat}{cs:List T}:rp b k (.t (.ip cs)) h=(CQ b k cs).map .t:=by simp only[rp];cases CQ b k cs<;>rfl
theorem atc{b:Bool}{k o i off q:Nat}:rp b k (.ref o q i off) h=(rowAt h o q i).bind (fun v=>ve b k (v.cells.drop off)):=by simp only[rp];cases rowAt h o q i<;>rfl
theorem azh{k:Nat}{cs:List T}:CQ true k cs=if k≤cs.length then some (.agg (cs.take k))else none:=(fun x=>x) rfl
theorem azi{k:Nat}{cs:List T}:CQ false k cs=cs.head?:=(fun x=>x) rfl
theorem azj{k:Nat}{cs:List ah}:ve true k cs=if k≤cs.length then some (kJ (cs.take k))else none:=(fun x=>x) rfl
theorem azk{k:Nat}{cs:List ah}:ve false k cs=cs.head?:=(fun x=>x) rfl
theorem akE{off:Nat}{cs:List T}:LW off (.t (.ip cs))=some (.t (.ip (cs.drop off))):=(fun x=>x) rfl
theorem akF{off o q i k:Nat}:LW off (.ref o q i k)=some (.ref o q i (k+off)):=(fun x=>x) rfl
theorem aiM(cs:List T):(ah.t (.agg cs)).cells=cs.map .t:=(fun x=>x) rfl
theorem aiR(v:Value):(ah.t (.aA v)).cells=[.t (.aA v)]:=(fun x=>x) rfl
theorem aiS(c:Bool)(k:Nat)(xs:List T):(ah.t (.aP c k xs)).cells=[.t (.aP c k xs)]:=(fun x=>x) rfl
theorem aiQ{o q i l k:Nat}{c:Bool}:(ah.ms o q i l k c).cells=[.ms o q i l k c]:=(fun x=>x) rfl
theorem aiN(cs:List ah):(ah.agg cs).cells=cs:=(fun x=>x) rfl
theorem azm(cs:List T):(T.agg cs).cells=cs:=(fun x=>x) rfl
theorem azn(v:Value):(T.aA v).cells=[.aA v]:=(fun x=>x) rfl
theorem azo(c:Bool)(k:Nat)(xs:List T):(T.aP c k xs).cells=[.aP c k xs]:=(fun x=>x) rfl
def UB(h:aj):Option T→Option (ah × aj)
 | some r=>some (.t r,h)
 | none=>none
theorem asu(r:T):UB h (some r)=some (.t r,h):=(fun x=>x) rfl
def GA(K:eZ)(I:eY)(g:FuncId)(args:List ah)(h:aj):Option (List T)→Option (ah × aj)
 | some aq=>UB h (K g aq)
 | none=>match b5 (snap h ez 20) args with
  | some aq=>match K g aq with|some r=>if r.plain then some (.t r,h)else none|none=>none
  | none=>alive (I (.fn g) args h)
theorem aiA{g:FuncId}{args:List ah}{aq:List T}:GA K I g args h (some aq)=UB h (K g aq):=(fun x=>x) rfl
theorem aiB{g at_:FuncId}{t:Tmp}{args:List ah}(hi:pol.inl g at_ t=false)(aI:pol.fresh g at_ t=false):iw pol K I at_ t (.fn g) args h=GA K I g args h (e6 args):=by
 unfold iw GA
 simp only[hi,aI,vw,fJ,et]
 cases e6 args with
 | none=>rfl
 | some aq=>cases K g aq<;>rfl
def GX(h:aj)(k:ah→aj→Prop)(v:ah)(ag:aj):Prop:=(h.length≤ag.length∧cL (kB h.length) v=true∧oQ (kB h.length) (ag.drop h.length)=true)∧k v (h++ag.drop h.length)
theorem ale{k:ah→aj→Prop}{v:ah}{ag:aj}:GX h k v ag=((h.length≤ag.length∧cL (kB h.length) v=true∧oQ (kB h.length) (ag.drop h.length)=true)∧k v (h++ag.drop h.length)):=(fun x=>x) rfl
theorem adB{x:Option (ah × aj)}{k:ah→aj→Prop}:ej (vI h x) k=ej x (GX h k):=by
 cases x with
 | none=>rfl
 | some y =>
  obtain⟨v,ag⟩:=y
  simp only[vI,ej,GX]
  by_cases af:(decide (h.length≤ag.length) && cL (kB h.length) v && oQ (kB h.length) (ag.drop h.length))=true
  ·rw[a6 af]
   simp only[fe,ho]at af
   simp only[af.1.1,af.1.2,af.2,Gk,zc]
  ·rw[a2 af]
   simp only[fe,ho]at af
   simp only[eq_iff_iff,false_iff]
   intro h
   exact af ⟨⟨h.1.1,h.1.2.1⟩,h.1.2.2⟩
def Qm(I:eY)(g:FuncId)(h:aj):Option (List T)→Option (ah × aj)
 | some aq=>vJ h (alive (I (.fn g) (aq.map .t) (List.replicate h.length .gone)))
 | none=>none
theorem alf{g:FuncId}{aq:List T}:Qm I g h (some aq)=vJ h (alive (I (.fn g) (aq.map .t) (List.replicate h.length .gone))):=(fun x=>x) rfl
def K0(h:aj)(k:ah→aj→Prop)(v:ah)(ag:aj):Prop:=(kK v=true∧np (ag.drop h.length)=true)∧GX h k v ag
theorem ald{k:ah→aj→Prop}{v:ah}{ag:aj}:K0 h k v ag=((kK v=true∧np (ag.drop h.length)=true)∧GX h k v ag):=(fun x=>x) rfl
theorem auf{x:Option (ah × aj)}{k:ah→aj→Prop}:ej (vJ h x) k=ej x (K0 h k):=by
 cases x with
 | none=>rfl
 | some y =>
  obtain⟨v,ag⟩:=y
  simp only[vJ]
  by_cases af:(kK v && np (ag.drop h.length))=true
  ·rw[a6 af,adB]
   simp only[fe]at af
   simp only[ej,K0,af.1,af.2,Gk,zc]
  ·rw[a2 af]
   simp only[fe]at af
   simp only[ej,K0,eq_iff_iff,false_iff]
   intro h
   exact af h.1
theorem aiC{g at_:FuncId}{t:Tmp}{args:List ah}{aq:List T}(aI:pol.fresh g at_ t=true)(hi:pol.inl g at_ t=false)(U:e6 args=none)(J:b5 (snap h (z8 (jF args)) 20) args=some aq):iw pol K I at_ t (.fn g) args h=Qm I g h (some aq):=by
 unfold iw Qm
 simp only[hi,aI,U,J,vw,fJ,et,cQ]
theorem avh{x:T}:kK (.t x)=x.plain:=by simp[kK]
theorem avg{o e i l k:Nat}{c:Bool}:kK (.ms o e i l k c)=true:=by simp[kK]
theorem ave{cs:List ah}:kK (.agg cs)=qF cs:=by simp[kK]
theorem avi:qF []=true:=by simp[qF]
theorem adM{x:ah}{r:List ah}:qF (x::r)=(kK x && qF r):=by simp[qF]
theorem avc:np []=true:=by simp[np]
theorem avd{k aG:Nat}{es:List ah}{r:List a9}:np (.row k es aG::r)=(qF es && np r):=by simp[np]
theorem ahj{p:Nat→Bool}:oQ p []=true:=(fun x=>x) rfl
theorem ahi{p:Nat→Bool}{x:a9}{r:List a9}:oQ p (x::r)=(zm p x && oQ p r):=(fun x=>x) rfl
theorem ahk{p:Nat→Bool}{k aG:Nat}{es:List ah}:zm p (.row k es aG)=dw p es:=(fun x=>x) rfl
theorem ahs{n o:Nat}:kB n o=decide (o<n):=(fun x=>x) rfl
theorem aiD{g at_:FuncId}{t:Tmp}{args:List ah}(hi:pol.inl g at_ t=true)(av:u7 pol g args=false)(ax:pol.trim g=false):iw pol K I at_ t (.fn g) args h=alive (I (.fn g) args h):=by
 unfold iw
 simp only[hi,av,ax,qT,uu,cQ,pr,fJ,et]
theorem aiE{g at_:FuncId}{t:Tmp}{args:List ah}(hi:pol.inl g at_ t=true)(av:u7 pol g args=false)(ax:pol.trim g=true):iw pol K I at_ t (.fn g) args h=pr true h (alive (I (.fn g) args h)):=by
 unfold iw
 simp only[hi,av,ax,qT,uu,cQ]
theorem aiF{o:Nat}{at_:FuncId}{t:Tmp}{args:List ah}:iw pol K I at_ t (.bF o) args h=I (.bF o) args h:=(fun x=>x) rfl
def GJ(x:T):Option (List T)→Option (List T)
 | some xs=>some (x::xs)
 | none=>none
theorem PS(x:T)(xs:List T):GJ x (some xs)=some (x::xs):=(fun x=>x) rfl
theorem agR:e6 []=some []:=(fun x=>x) rfl
theorem agT(x:T)(r:List ah):e6 (.t x::r)=GJ x (e6 r):=by simp only[e6];cases e6 r<;>rfl
theorem agS{o q i k:Nat}{r:List ah}:e6 (.ref o q i k::r)=none:=(fun x=>x) rfl
theorem agQ{o q i l k:Nat}{c:Bool}{r:List ah}:e6 (.ms o q i l k c::r)=none:=(fun x=>x) rfl
theorem Kr{o:Nat}{r:List ah}:e6 (.mp o::r)=none:=(fun x=>x) rfl
theorem ajn(x:T):GJ x none=none:=(fun x=>x) rfl
theorem aiG{k:FuncId}{a b:List T}{args:List ah}:nH (.t (.fn (.func k) a b)) args=some (.call (.fn k) (a.map .t++args++b.map .t)):=(fun x=>x) rfl
theorem aiH{k:FuncId}{a b:List ah}{args:List ah}:nH (.fn (.func k) a b) args=some (.call (.fn k) (a++args++b)):=(fun x=>x) rfl
theorem aiI{o:Nat}{args:List ah}:nH (.bF o) args=some (.call (.bF o) args):=(fun x=>x) rfl
def Kp(cs:List ah):Option (List T)→ah
 | some aq=>.t (.agg aq)
 | none=>.agg cs
theorem atC(cs:List ah):kJ cs=Kp cs (e6 cs):=by unfold kJ Kp;cases e6 cs<;>rfl
theorem agM(cs:List ah)(aq:List T):Kp cs (some aq)=.t (.agg aq):=(fun x=>x) rfl
theorem agL(cs:List ah):Kp cs none=.agg cs:=(fun x=>x) rfl
def Ob(cs:List ah):Option (List T)→ah
 | some aq=>.t (.ch aq)
 | none=>.ch cs
theorem atJ(cs:List ah):oC cs=Ob cs (e6 cs):=by unfold oC Ob;cases e6 cs<;>rfl
theorem azY(cs:List ah)(aq:List T):Ob cs (some aq)=.t (.ch aq):=(fun x=>x) rfl
theorem azX(cs:List ah):Ob cs none=.ch cs:=(fun x=>x) rfl
theorem akD(vs:List T)(i:Nat):HT (.t (.ch vs)) i=(vs[i]?).map .t:=by simp only[HT];cases vs[i]?<;>rfl
theorem asV{c:Bool}{k:Nat}{xs:List T}:zU (.t (.aP c k xs))=some (.t (.aA (.int .i64 xs.length))):=(fun x=>x) rfl
theorem len_nil:zU (.t (.aA (.slice none 0 0)))=some (.t (.aA (.int .i64 0))):=(fun x=>x) rfl
theorem asT{o q i l k:Nat}{c:Bool}:zU (.ms o q i l k c)=some (.t (.aA (.int .i64 l))):=(fun x=>x) rfl
def ha(_:List Nat)(c:C):C:=c
def bc(_:List Nat)(l:List da):List da:=l
def vf(e e7:aM):List Nat→aM
 | []=>e7
 | t::aq=>eW (vf e e7 aq) (some t) (e t)
theorem az8{e7:aM}:vf e e7 []=e7:=(fun x=>x) rfl
theorem afg{e7:aM}{t:Nat}{aq:List Nat}:vf e e7 (t::aq)=eW (vf e e7 aq) (some t) (e t):=(fun x=>x) rfl
theorem Wa(aq:List Nat):vf e e aq=e:=by
 induction aq with
 | nil=>rfl
 | cons t aq au =>
  rw[afg,au]
  funext s
  simp only[eW]
  split
  ·rename_i h;rw[h]
  ·rfl
theorem atE{aq:List Nat}{c:C}{R:cW→aM→aj→Prop}(hw:∀ e7,c6 P pol K I n f c R (vf e e7 aq) h):c6 P pol K I n f (ha aq c) R e h:=by
 have:=hw e
 rwa[Wa]at this
theorem atH{aq:List Nat}{R:cW→aM→aj→Prop}(hw:∀ e7,kv P pol K I f r R (vf e e7 aq) h):kv P pol K I f (bc aq r) R e h:=by
 have:=hw e
 rwa[Wa]at this
theorem atG{L:hl}{aq:List Nat}(hw:∀ e7,hY P pol K I f L r Q (vf e e7 aq) h):hY P pol K I f L (bc aq r) Q e h:=by
 have:=hw e
 rwa[Wa]at this
theorem ar3{x:Src}:cc P pol f e h (.e9 x)=some (.val (x.get e) h):=(fun x=>x) rfl
theorem arX{size:Nat}{x:Src}:cc P pol f e h (.sh size x)=some (HV size (x.get e) h):=(fun x=>x) rfl
theorem ar8{c a b:Src}:cc P pol f e h (.sL c a b)=fB h (zV (c.get e) (a.get e) (b.get e)):=(fun x=>x) rfl
theorem ar6{k:Nat}{z:T}:cc P pol f e h (.de k z)=some (.val (.ref h.length 1 0 0) (h++[.row k [.t z] 0])):=(fun x=>x) rfl
theorem ar7{size:Nat}:cc P pol f e h (.I8 size)=some (.val (.ref (h.length+1) 1 0 0) (h++[.row size [] 0,.row 1 [.ms h.length 0 0 0 size false] 0])):=(fun x=>x) rfl
theorem arR{m:Bool}{x:Src}:cc P pol f e h (.xf m x)=BS m (x.get e) h:=(fun x=>x) rfl
theorem arO{cs:List T}{parts:List (Nat × Nat × Src)}:cc P pol f e h (.gF cs parts)=fB h (zT cs (tQ e parts)):=(fun x=>x) rfl
theorem arQ{m:Bool}{size len:Nat}{z:T}{parts:List (Nat × Src)}:cc P pol f e h (.gB m size z len parts)=HS m size z len (Ai e parts) h:=(fun x=>x) rfl
theorem ar1{agg:Bool}{k:Nat}{a:Src}:cc P pol f e h (.fL agg k a)=fB h (rp agg k (a.get e) h):=(fun x=>x) rfl
theorem asa{k:Nat}{a x:Src}:cc P pol f e h (.st k a x)=q6 (v8 k (a.get e) (x.get e) h):=(fun x=>x) rfl
theorem ar4{x:Src}:cc P pol f e h (.qC x)=fB h (HX (x.get e)):=(fun x=>x) rfl
theorem arP{o:BinOp}{hr:Bool}{x y:Src}:cc P pol f e h (.bin o hr x y)=fB h (jD o hr (x.get e) (y.get e)):=(fun x=>x) rfl
theorem ar5{x:Src}:cc P pol f e h (.dp x)=fB h (LX (x.get e)):=(fun x=>x) rfl
theorem arT{k:IntKind}{x:Src}:cc P pol f e h (.kD k x)=fB h (LV k (x.get e)):=(fun x=>x) rfl
theorem arW{g:FuncId}{a b:List Src}:cc P pol f e h (.fn g a b)=some (.val (HU g (ly e a) (ly e b)) h):=(fun x=>x) rfl
theorem ar9{size:Nat}{x:Src}{lo hi gM:Option Src}:cc P pol f e h (.aP size x lo hi gM)=fB h (kp size (x.get e) (yl e lo) (yl e hi) (yl e gM)):=(fun x=>x) rfl
theorem arV{off:Nat}{x:Src}:cc P pol f e h (.Bh off x)=fB h (LW off (x.get e)):=(fun x=>x) rfl
def Ss(size:Nat)(x:ah)(h:aj):Option Nat→Option g4
 | some j=>fB h (BT size x j)
 | none=>none
theorem ao3{size:Nat}{x:ah}{j:Nat}:Ss size x h (some j)=fB h (BT size x j):=(fun x=>x) rfl
theorem arZ{size:Nat}{x i:Src}:cc P pol f e h (.hz size x i)=Ss size (x.get e) h (asNat (i.get e)):=by
 simp only[cc,Ss]
 cases asNat (i.get e)<;>rfl
def Sr(len size:Nat)(x:ah)(h:aj):Option Nat→Option g4
 | some j=>fB h (HW len size x j)
 | none=>none
theorem ao2{len size:Nat}{x:ah}{j:Nat}:Sr len size x h (some j)=fB h (HW len size x j):=(fun x=>x) rfl
theorem arY{len size:Nat}{x i:Src}:cc P pol f e h (.zW len size x i)=Sr len size (x.get e) h (asNat (i.get e)):=by
 simp only[cc,Sr]
 cases asNat (i.get e)<;>rfl
def z9(agg:Bool)(k len size:Nat)(x:ah)(h:aj):Option Nat→Option g4
 | some j=>if x.isAgg then(if j<len then fB h (ve agg k (x.cells.drop (j*size)))else none)else none
 | none=>none
theorem ash{agg:Bool}{k len size:Nat}{x:ah}{j:Nat}:z9 agg k len size x h (some j)=if x.isAgg then(if j<len then fB h (ve agg k (x.cells.drop (j*size)))else none)else none:=(fun x=>x) rfl
theorem ar0{agg:Bool}{k len size:Nat}{x i:Src}:cc P pol f e h (.z9 agg k len size x i)=z9 agg k len size (x.get e) h (asNat (i.get e)):=by
 simp only[cc,z9]
 cases asNat (i.get e)<;>rfl
theorem arU{x:Src}{i:Nat}:cc P pol f e h (.ex x i)=fB h (HT (x.get e) i):=(fun x=>x) rfl
theorem ar2{x:Src}:cc P pol f e h (.hj x)=fB h (zU (x.get e)):=(fun x=>x) rfl
theorem arN{size bytes:Nat}{s x:Src}:cc P pol f e h (.app size bytes s x)=Og (En size bytes (s.get e) (x.get e) h):=(fun x=>x) rfl
theorem arS{g:Src}{args:List Src}:cc P pol f e h (.call g args)=nH (g.get e) (ly e args):=(fun x=>x) rfl
theorem ayR:ly e []=[]:=(fun x=>x) rfl
theorem ayQ{x:Src}{l:List Src}:ly e (x::l)=x.get e::ly e l:=(fun x=>x) rfl
theorem au1:Ai e []=[]:=(fun x=>x) rfl
theorem au0{i:Nat}{x:Src}{l:List (Nat × Src)}:Ai e ((i,x)::l)=(i,x.get e)::Ai e l:=(fun x=>x) rfl
theorem au4:tQ e []=[]:=(fun x=>x) rfl
theorem au3{i k:Nat}{x:Src}{l:List (Nat × Nat × Src)}:tQ e ((i,k,x)::l)=(i,k,x.get e)::tQ e l:=(fun x=>x) rfl
theorem auK:yl e none=none:=(fun x=>x) rfl
theorem auL{x:Src}:yl e (some x)=some (x.get e):=(fun x=>x) rfl
def KC(v:ah):Option (List ah)→Option (List ah)
 | some l=>some (v::l)
 | none=>none
theorem ajk{v:ah}{l:List ah}:KC v (some l)=some (v::l):=(fun x=>x) rfl
def XS(rest:Option (List ah)):Option ah→Option (List ah)
 | some v=>KC v rest
 | none=>none
theorem ajo{v:ah}{l:Option (List ah)}:XS l (some v)=KC v l:=(fun x=>x) rfl
theorem aw5:jR e h []=some []:=(fun x=>x) rfl
theorem aw6{t:Nat}{l:List (Nat × Option (Bool × Nat))}:jR e h ((t,none)::l)=KC (e t) (jR e h l):=by
 simp only[jR]
 cases jR e h l<;>rfl
theorem aw4{t k:Nat}{b:Bool}{l:List (Nat × Option (Bool × Nat))}:jR e h ((t,some (b,k))::l)=XS (jR e h l) (rp b k (e t) h):=by
 simp only[jR]
 cases rp b k (e t) h<;>cases jR e h l<;>rfl
def Fc(r:T)(v:ah)(h:aj):Prop:=snap h ez 20 v=some r
theorem axc{r x:T}:Fc r (.t x) h=(x=r):=by simp[Fc,snap]
theorem cK{dp:Nat}{c:C}{rs:List (Nat × Option (Bool × Nat))}{args:List T}{r:T}(n d:Nat)(eA:lL P pol f=some ⟨dp,c,rs⟩)(ao:args.length≤dp)
  (hw:c6 P pol (a0 P pol) (inl P pol (a0 P pol) n d) n f c (xl rs (Fc r)) (pH (args.map .t)) []) (av:wB pol f args=none:=by rfl):a0 P pol f args=some r :=
 agX n d eA av ao hw
theorem arD{dp:Nat}{c:C}{rs:List (Nat × Option (Bool × Nat))}{args:List ah}{h:aj}{n d:Nat}{Q:ah→aj→Prop}(eA:lL P pol f=some ⟨dp,c,rs⟩)(ao:args.length≤dp)
  (hw:c6 P pol K (inl P pol K n d) n f c (xl rs Q) (pH args) h):∃ v ai,inl P pol K n (d+1) (.fn f) args h=some (v,ai)∧Q v ai:=arE eA ao hw
def Jp(q i:Nat):Option a9→Option ah
 | some (.row _ es aG)=>if aG≤q∧i<q∧q≤es.length then es[i]? else none
 | _=>none
theorem axA{o q i:Nat}:rowAt h o q i=Jp q i (h[o]?):=by
 unfold rowAt Jp
 rcases h[o]? with _|⟨_|_|_|_⟩<;>rfl
theorem VK{q i k aG:Nat}{es:List ah}:Jp q i (some (.row k es aG))=if aG≤q∧i<q∧q≤es.length then es[i]? else none:=(fun x=>x) rfl
def V0(size off:Nat)(v:ah)(h:aj)(o k q i:Nat)(elems:List ah):Option ah→Option aj
 | some dy=>if off+size≤k∧0<size∧fX v.cells=true then some (h.set o (.row k (elems.set i (pack dy.isAgg (ku dy.cells off v.cells))) q))else none
 | none=>none
def VZ(size q i off:Nat)(v:ah)(h:aj)(o:Nat):Option a9→Option aj
 | some (.row k elems aG)=>if q=elems.length∧v.cells.length=size∧aG≤q then V0 size off v h o k q i elems (elems[i]?)else none
 | _=>none
theorem ay1{size o q i off:Nat}{v:ah}:v8 size (.ref o q i off) v h=VZ size q i off v h o (h[o]?):=by
 simp only[v8,VZ]
 rcases h[o]? with _|⟨⟨k,elems,aG⟩|_|_|_⟩<;>rfl
theorem ayT{size q i off o k aG:Nat}{v:ah}{elems:List ah}:VZ size q i off v h o (some (.row k elems aG))=if q=elems.length∧v.cells.length=size∧aG≤q then V0 size off v h o k q i elems (elems[i]?)else none:=(fun x=>x) rfl
theorem ayU{size q i off o k:Nat}{v dy:ah}{elems:List ah}:V0 size off v h o k q i elems (some dy) =
  if off+size≤k∧0<size∧fX v.cells=true then some (h.set o (.row k (elems.set i (pack dy.isAgg (ku dy.cells off v.cells))) q))else none:=(fun x=>x) rfl
theorem aza:fX []=true:=(fun x=>x) rfl
theorem aeU{v:ah}{l:List ah}:fX (v::l)=(storable v && fX l):=(fun x=>x) rfl
theorem ay7{k:IntKind}{x:Int}:storable (.t (.aA (.int k x)))=true:=(fun x=>x) rfl
theorem ay5{b:Bool}:storable (.t (.aA (.bool b)))=true:=(fun x=>x) rfl
theorem azc{a:Option Addr}{x y:Nat}:storable (.t (.aA (.slice a x y)))=true:=(fun x=>x) rfl
theorem azb{c:Bool}{k:Nat}{xs:List T}:storable (.t (.aP c k xs))=true:=(fun x=>x) rfl
theorem ay6{g:Fn}{a b:List T}:storable (.t (.fn g a b))=true:=(fun x=>x) rfl
theorem ay9{o q i l k:Nat}{c:Bool}:storable (.ms o q i l k c)=true:=(fun x=>x) rfl
theorem ay8{o:Nat}:storable (.mp o)=true:=(fun x=>x) rfl
theorem arJ{cs:List T}:(ah.t (.agg cs)).isAgg=true:=(fun x=>x) rfl
theorem arK{cs:List ah}:(ah.agg cs).isAgg=true:=(fun x=>x) rfl
theorem arM{v:Value}:(ah.t (.aA v)).isAgg=false:=(fun x=>x) rfl
theorem arL{o q i l k:Nat}{c:Bool}:(ah.ms o q i l k c).isAgg=false:=(fun x=>x) rfl
theorem aiO{g:Fn}{a b:List T}:(ah.t (.fn g a b)).cells=[.t (.fn g a b)]:=(fun x=>x) rfl
theorem aiP{o:Nat}:(ah.mp o).cells=[.mp o]:=(fun x=>x) rfl
theorem auR{cs:List ah}:pack true cs=kJ cs:=by cases cs<;>rfl
theorem auQ{c:ah}:pack false [c]=c:=(fun x=>x) rfl
theorem ayO{cs vs:List ah}{off:Nat}:ku cs off vs=cs.take off++vs++cs.drop (off+vs.length):=(fun x=>x) rfl
def VQ(cF:Nat)(e:aM)(h:aj):Option aj→Option (aM × aj)
 | some ai=>some (kV h (bV cF) e,ai)
 | none=>none
theorem ax6{cF:Nat}{ai:aj}:VQ cF e h (some ai)=some (kV h (bV cF) e,ai):=(fun x=>x) rfl
theorem ax8{cF:Nat}(ao:cF<h.length):iq cF e h=VQ cF e h (b5 (dk h (bV cF)) (h.take cF)):=by
 unfold iq VQ
 rw[a2 (by omega)]
 cases b5 (dk h (bV cF)) (h.take cF)<;>rfl
def PR(x:a9):Option aj→Option aj
 | some l=>some (x::l)
 | none=>none
theorem ajm{x:a9}{l:aj}:PR x (some l)=some (x::l):=(fun x=>x) rfl
def XR(r:Option aj):Option a9→Option aj
 | some x=>PR x r
 | none=>none
theorem ajl{x:a9}{r:Option aj}:XR r (some x)=PR x r:=(fun x=>x) rfl
theorem atq{g:a9→Option a9}:b5 g []=some []:=(fun x=>x) rfl
theorem atp{g:a9→Option a9}{x:a9}{l:aj}:b5 g (x::l)=XR (b5 g l) (g x):=by
 simp only[b5]
 cases g x<;>cases b5 g l<;>rfl
theorem alk{p:Nat→Bool}{k aG:Nat}{es:List ah}(ae:dw p es=true):dk h p (.row k es aG)=some (.row k es aG):=by simp[dk,ae]
theorem Xj{p:Nat→Bool}:dw p []=true:=(fun x=>x) rfl
theorem Pv{p:Nat→Bool}{v:ah}{l:List ah}:dw p (v::l)=(cL p v && dw p l):=(fun x=>x) rfl
theorem Xk{p:Nat→Bool}{x:T}:cL p (.t x)=true:=(fun x=>x) rfl
theorem ahg{p:Nat→Bool}{o q i l k:Nat}{c:Bool}:cL p (.ms o q i l k c) = !p o:=(fun x=>x) rfl
theorem ahh{p:Nat→Bool}{o q i k:Nat}:cL p (.ref o q i k) = !p o:=(fun x=>x) rfl
theorem ahe{p:Nat→Bool}{cs:List ah}:cL p (.agg cs)=dw p cs:=(fun x=>x) rfl
theorem zj{p:Nat→Bool}{xs:List T}:dw p (xs.map .t)=true:=by
 induction xs with
 | nil=>rfl
 | cons x xs au=>simp[Pv,Xk,au]
theorem GY{cF o:Nat}:bV cF o=decide (cF≤o):=(fun x=>x) rfl
def Ql:Option ah→ah
 | some v=>v
 | none=>.dead
theorem alb{v:ah}:Ql (some v)=v:=(fun x=>x) rfl
theorem alj{p:Nat→Bool}{t:Nat}:kV h p e t=Ql (dV h p (e t)):=by
 simp only[kV,Ql]
 cases dV h p (e t)<;>rfl
theorem als{p:Nat→Bool}{x:T}:dV h p (.t x)=some (.t x):=by simp[dV,jk,cL]
theorem YA{p:Nat→Bool}{o q i l k:Nat}{c:Bool}(aC:p o=false):dV h p (.ms o q i l k c)=some (.ms o q i l k c):=by simp[dV,jk,cL,aC]
theorem alr{p:Nat→Bool}{o q i k:Nat}(aC:p o=false):dV h p (.ref o q i k)=some (.ref o q i k):=by simp[dV,jk,cL,aC]
theorem alp{p:Nat→Bool}{o:Nat}(aC:p o=false):dV h p (.mp o)=some (.mp o):=by simp[dV,jk,cL,aC]
def Uv(size k:Nat):Option T→Option ah
 | some v=>if k=size then some (.t (.ip v.cells))else none
 | none=>none
theorem asi{size k:Nat}{v:T}:Uv size k (some v)=if k=size then some (.t (.ip v.cells))else none:=(fun x=>x) rfl
theorem asl{size k j:Nat}{c:Bool}{xs:List T}:BT size (.t (.aP c k xs)) j=Uv size k (xs[j]?):=by
 simp only[BT,Uv]
 cases xs[j]?<;>rfl
theorem asj{size o q i l k j:Nat}{c:Bool}:BT size (.ms o q i l k c) j=if j<l∧k=size then some (.ref o q (i+j) 0)else none:=(fun x=>x) rfl
theorem asm{len size j:Nat}{cs:List T}:HW len size (.t (.ip cs)) j=if j<len then some (.t (.ip (cs.drop (j*size))))else none:=(fun x=>x) rfl
theorem asn{len size j o q i off:Nat}:HW len size (.ref o q i off) j=if j<len then some (.ref o q i (off+j*size))else none:=(fun x=>x) rfl
def Gs(size bytes:Nat)(o q i len k:Nat)(clip:Bool)(x:ah)(xs:List ah)(h:aj):Option a9→Option (ah × aj)
 | some (.row aO elems aG) =>
  if(len+(xs.length+1))*bytes≤eQ∧k=size∧aO=size∧aG≤q∧i+len≤q∧q≤elems.length then
   if clip then some (.ms h.length (len+(xs.length+1)) 0 (len+(xs.length+1)) size false,h++[.row size ((elems.drop i).take len++(x::xs)) 0])
   else if i=0∧len=q∧q=elems.length then some (.ms o (q+(xs.length+1)) 0 (len+(xs.length+1)) size false,h.set o (.row size (elems++(x::xs)) aG))
   else if i=0∧len+(xs.length+1)≤q∧q=elems.length then some (.ms o q 0 (len+(xs.length+1)) size false,h.set o (.row size (elems.take len++(x::xs)++elems.drop (len+(xs.length+1))) q))
   else none
  else none
 | _=>none
def qY(size bytes:Nat)(s:ah)(h:aj):Option (List ah)→Option (ah × aj)
 | some []=>match s with
  | .t (.aA (.slice none 0 0))=>some (s,h)
  | .t (.aP true _ _)=>some (s,h)
  | .ms ..=>some (s,h)
  | _=>none
 | some (x::xs)=>match s with
  | .t (.aA (.slice none 0 0))=>if(xs.length+1)*bytes≤eQ then some (.ms h.length (xs.length+1) 0 (xs.length+1) size false,h++[.row size (x::xs) 0])else none
  | .t (.aP true k ys)=>if(ys.length+(xs.length+1))*bytes≤eQ∧(k=size∨ys=[])then some (.ms h.length (ys.length+(xs.length+1)) 0 (ys.length+(xs.length+1)) size false,h++[.row size (ys.map .t++(x::xs)) 0])else none
  | .ms o q i len k clip=>Gs size bytes o q i len k clip x xs h (h[o]?)
  | _=>none
 | none=>none
theorem ag0{size bytes:Nat}{s x:ah}:En size bytes s x h=qY size bytes s h (gU h size x):=by
 unfold En qY
 cases gU h size x with
 | none=>rfl
 | some l =>
  cases l with
  | nil =>
   cases s with
   | t x=>cases x with
    | aP c k ys=>cases c<;>rfl
    | aA v=>cases v with
     | slice a l c=>cases a with
      | none=>cases l with
       | zero=>cases c<;>rfl
       | succ _=>rfl
      | some _=>rfl
     | _=>rfl
    | _=>rfl
   | _=>rfl
  | cons y ys =>
   cases s with
   | t x=>cases x with
    | aP c k ys=>cases c<;>rfl
    | aA v=>cases v with
     | slice a l c=>cases a with
      | none=>cases l with
       | zero=>cases c<;>rfl
       | succ _=>rfl
      | some _=>rfl
     | _=>rfl
    | _=>rfl
   | _=>rfl
theorem Pr{size bytes:Nat}{x:ah}{xs:List ah}:qY size bytes (.t (.aA (.slice none 0 0))) h (some (x::xs))=if(xs.length+1)*bytes≤eQ then some (.ms h.length (xs.length+1) 0 (xs.length+1) size false,h++[.row size (x::xs) 0])else none:=(fun x=>x) rfl
theorem agY{size bytes k:Nat}{ys:List T}{x:ah}{xs:List ah}:qY size bytes (.t (.aP true k ys)) h (some (x::xs)) =
  if(ys.length+(xs.length+1))*bytes≤eQ∧(k=size∨ys=[])then some (.ms h.length (ys.length+(xs.length+1)) 0 (ys.length+(xs.length+1)) size false,h++[.row size (ys.map .t++(x::xs)) 0])else none:=(fun x=>x) rfl
theorem zi{size bytes o q i len k:Nat}{clip:Bool}{x:ah}{xs:List ah}:qY size bytes (.ms o q i len k clip) h (some (x::xs))=Gs size bytes o q i len k clip x xs h (h[o]?):=(fun x=>x) rfl
theorem Xf{size bytes o q i len k:Nat}{clip:Bool}:qY size bytes (.ms o q i len k clip) h (some [])=some (.ms o q i len k clip,h):=(fun x=>x) rfl
theorem zh{size bytes o q i len k aO aG:Nat}{clip:Bool}{x:ah}{xs elems:List ah}:Gs size bytes o q i len k clip x xs h (some (.row aO elems aG)) =
  if(len+(xs.length+1))*bytes≤eQ∧k=size∧aO=size∧aG≤q∧i+len≤q∧q≤elems.length then
   if clip then some (.ms h.length (len+(xs.length+1)) 0 (len+(xs.length+1)) size false,h++[.row size ((elems.drop i).take len++(x::xs)) 0])
   else if i=0∧len=q∧q=elems.length then some (.ms o (q+(xs.length+1)) 0 (len+(xs.length+1)) size false,h.set o (.row size (elems++(x::xs)) aG))
   else if i=0∧len+(xs.length+1)≤q∧q=elems.length then some (.ms o q 0 (len+(xs.length+1)) size false,h.set o (.row size (elems.take len++(x::xs)++elems.drop (len+(xs.length+1))) q))
   else none
  else none:=(fun x=>x) rfl
theorem ajZ{size k:Nat}{c:Bool}{xs:List T}(an:k=size):gU h size (.t (.aP c k xs))=some (xs.map .t):=by
 subst an
 cases xs<;>simp[gU]
def P4(size q i len k:Nat):Option a9→Option (List ah)
 | some (.row _ elems aG)=>if k=size∧aG≤q∧q≤elems.length∧i+len≤q then some ((elems.drop i).take len)else none
 | _=>none
theorem X6{size o q i len k:Nat}{c:Bool}:gU h size (.ms o q i len k c)=P4 size q i len k (h[o]?):=by
 simp only[gU,P4]
 rcases h[o]? with _|⟨_|_|_|_⟩<;>rfl
theorem P5{size q i len k aO aG:Nat}{elems:List ah}:P4 size q i len k (some (.row aO elems aG))=if k=size∧aG≤q∧q≤elems.length∧i+len≤q then some ((elems.drop i).take len)else none:=(fun x=>x) rfl
theorem alX{size:Nat}:HV size (.t (.aA (.slice none 0 0))) h=.val (.ms h.length 0 0 0 size false) (h++[.row size [] 0]):=(fun x=>x) rfl
theorem alW{size o q i l k:Nat}{c:Bool}:HV size (.ms o q i l k c) h=.val (.ms o q i l k c) h:=(fun x=>x) rfl
theorem aid{x:T}:BS false (.t x) h=if fX (ah.t x).cells then some (.val (.t (.ip x.cells)) h)else none:=(fun x=>x) rfl
theorem aie{x:ah}:BS true x h=if fX x.cells && !x.cells.isEmpty then some (.val (.ref h.length 1 0 0) (h++[.row x.cells.length [x] 0]))else none:=(fun x=>x) rfl
def PB:Option (List ah)→Option ah
 | some cs=>some (kJ cs)
 | none=>none
theorem ahr{cs:List T}{parts:List (Nat × Nat × ah)}:zT cs parts=PB (uI (cs.map .t) parts):=by
 unfold zT PB
 cases uI (cs.map .t) parts<;>rfl
theorem ahq{cs:List ah}:PB (some cs)=some (kJ cs):=(fun x=>x) rfl
theorem akO{cs:List ah}:uI cs []=some cs:=(fun x=>x) rfl
theorem akN{cs:List ah}{off size:Nat}{v:ah}{r:List (Nat × Nat × ah)}:uI cs ((off,size,v)::r)=if v.cells.length=size∧0<size∧off+size≤cs.length then uI (ku cs off v.cells) r else none:=(fun x=>x) rfl
def Kt(m:Bool)(size len:Nat)(elems:List ah)(h:aj):Option (List T)→Option g4
 | some aq=>if m then some (.val (.ms h.length len 0 len size true) (h++[.row size elems 0]))else some (.val (.t (.aP true size aq)) h)
 | none=>some (.val (.ms h.length len 0 len size true) (h++[.row size elems 0]))
def PD(m:Bool)(size len:Nat)(h:aj):Option (List ah)→Option g4
 | some elems=>Kt m size len elems h (e6 elems)
 | none=>none
theorem ah0{m:Bool}{size len:Nat}{z:T}{parts:List (Nat × ah)}:HS m size z len parts h=PD m size len h (se size (List.replicate len (.t z)) parts):=by
 unfold HS PD
 cases se size (List.replicate len (.t z)) parts with
 | none=>rfl
 | some es =>
  simp only[Kt]
  cases m<;>cases e6 es<;>rfl
theorem ahZ{m:Bool}{size len:Nat}{elems:List ah}:PD m size len h (some elems)=Kt m size len elems h (e6 elems):=(fun x=>x) rfl
theorem ahY{m:Bool}{size len:Nat}{elems:List ah}{aq:List T}:Kt m size len elems h (some aq)=if m then some (.val (.ms h.length len 0 len size true) (h++[.row size elems 0]))else some (.val (.t (.aP true size aq)) h):=(fun x=>x) rfl
theorem akL{size:Nat}{es:List ah}:se size es []=some es:=(fun x=>x) rfl
theorem akK{size i:Nat}{es:List ah}{v:ah}{r:List (Nat × ah)}:se size es ((i,v)::r)=if v.cells.length=size∧0<size∧i<es.length∧fX v.cells=true then se size (es.set i v) r else none:=(fun x=>x) rfl
theorem aw2{n:Nat}{a:ah}:List.replicate (n+1) a=a::List.replicate n a:=(fun x=>x) rfl
theorem aw3{a:ah}:List.replicate 0 a=[]:=(fun x=>x) rfl
def KX(g:FuncId)(a b:List ah):Option (List T)→Option (List T)→ah
 | some x,some y=>.t (.fn (.func g) x y)
 | _,_=>.fn (.func g) a b
theorem ak2{g:FuncId}{a b:List ah}:HU g a b=KX g a b (e6 a) (e6 b):=by
 unfold HU KX
 cases e6 a<;>cases e6 b<;>rfl
theorem ak1{g:FuncId}{a b:List ah}{x y:List T}:KX g a b (some x) (some y)=.t (.fn (.func g) x y):=(fun x=>x) rfl
theorem ag6{k:IntKind}{x:Int}:asNat (.t (.aA (.int k x)))=if 0≤x then some x.toNat else none:=(fun x=>x) rfl
theorem ayh{size k:Nat}{c:Bool}{xs:List T}{qy:IntKind}{x:Int}:kp size (.t (.aP c k xs)) none (some (.t (.aA (.int qy x)))) none =
  if 0≤x then(if x.toNat≤xs.length∧k=size then some (.t (.aP (c && decide (x.toNat=xs.length)) k (xs.take x.toNat)))else none)else none:=by
 by_cases U:0≤x
 ·simp[kp,hM,asNat,U]
 ·simp[kp,hM,asNat,U]
def VT:Option (List T)→Option T
 | some aq=>some (.ch aq)
 | none=>none
def aeG:Option (List T)→Option T
 | some aq=>some (.agg aq)
 | none=>none
def NY(clip:Bool)(k:Nat):Option (List T)→Option T
 | some aq=>some (.aP clip k aq)
 | none=>none
def NX(h:aj)(d:Nat)(clip:Bool)(k:Nat):Option (List ah)→Option T
 | some es=>NY clip k (b5 (snap h ez d) es)
 | none=>none
theorem ayq{aq:List T}:VT (some aq)=some (.ch aq):=(fun x=>x) rfl
theorem ayl{aq:List T}:aeG (some aq)=some (.agg aq):=(fun x=>x) rfl
theorem ayp{clip:Bool}{k:Nat}{aq:List T}:NY clip k (some aq)=some (.aP clip k aq):=(fun x=>x) rfl
theorem aeH{d:Nat}{clip:Bool}{k:Nat}{es:List ah}:NX h d clip k (some es)=NY clip k (b5 (snap h ez d) es):=(fun x=>x) rfl
theorem ayu{d:Nat}{cs:List ah}:snap h ez (d+1) (.ch cs)=VT (b5 (snap h ez d) cs):=by
 simp only[snap,VT]
 cases b5 (snap h ez d) cs<;>rfl
theorem ays{d o q i len k:Nat}{c:Bool}:snap h ez (d+1) (.ms o q i len k c)=NX h d c k (gU h k (.ms o q i len k c)):=by
 simp only[snap,NX,ez,cQ]
 cases gU h k (.ms o q i len k c)with
 | none=>rfl
 | some es =>
  simp only[NY]
  cases b5 (snap h ez d) es<;>rfl
theorem aeI{d:Nat}{x:T}:snap h ez d (.t x)=some x:=by cases d<;>rfl
def KD(r:Option (List T)):Option T→Option (List T)
 | some x=>GJ x r
 | none=>none
theorem PT{x:T}{r:Option (List T)}:KD r (some x)=GJ x r:=(fun x=>x) rfl
theorem adf{d:Nat}{x:ah}{l:List ah}:b5 (snap h ez d) (x::l)=KD (b5 (snap h ez d) l) (snap h ez d x):=by
 simp only[b5]
 cases snap h ez d x<;>cases b5 (snap h ez d) l<;>rfl
theorem adg{d:Nat}{xs:List T}:b5 (snap h ez d) (xs.map .t)=some xs:=by
 induction xs with
 | nil=>rfl
 | cons x xs au=>rw[gz,adf,au,aeI,PT,PS]
theorem axd{r:T}{cs:List ah}:Fc r (.ch cs) h=(snap h ez 20 (.ch cs)=some r):=(fun x=>x) rfl
theorem axb{r:T}{o q i len k:Nat}{c:Bool}:Fc r (.ms o q i len k c) h=(snap h ez 20 (.ms o q i len k c)=some r):=(fun x=>x) rfl
theorem axa{r:T}{cs:List ah}:Fc r (.agg cs) h=(snap h ez 20 (.agg cs)=some r):=(fun x=>x) rfl
def lY(size n:Nat):Option a9→Prop
 | some (.row k es aG)=>k=size∧es.length=n∧aG≤n
 | _=>False
def NG:Option a9→List ah
 | some (.row _ es _)=>es
 | _=>[]
def VG:Option a9→Nat
 | some (.row _ _ aG)=>aG
 | _=>0
theorem axy{size n k aG:Nat}{es:List ah}:lY size n (some (.row k es aG))=(k=size∧es.length=n∧aG≤n):=(fun x=>x) rfl
theorem VF{k aG:Nat}{es:List ah}:NG (some (.row k es aG))=es:=(fun x=>x) rfl
theorem aek{k aG:Nat}{es:List ah}:VG (some (.row k es aG))=aG:=(fun x=>x) rfl
theorem aej{size n:Nat}{x:Option a9}(al:lY size n x):∃ es aG,x=some (.row size es aG)∧es.length=n∧aG≤n:=by
 match x,al with
 | some (.row k es aG),al=>obtain⟨rfl,ad,ag⟩:=al;exact⟨es,aG,rfl,ad,ag⟩
theorem agZ{size bytes o n:Nat}{xs:List ah}(aC:lY size n (h[o]?))(fr:(n+xs.length)*bytes≤eQ) :
  qY size bytes (.ms o n 0 n size false) h (some xs)=some (.ms o (n+xs.length) 0 (n+xs.length) size false,h.set o (.row size (NG (h[o]?)++xs) (VG (h[o]?)))):=by
 obtain⟨es,aG,al,ad,ag⟩:=aej aC
 rw[al,VF,aek]
 cases xs with
 | nil =>
  rw[Xf]
  simp only[lF,s0,oj]
  obtain⟨aB,nj⟩:=cD.1 al
  rw[← nj,List.set_getElem_self]
 | cons x xs =>
  simp only[jc]at fr
  rw[zi,al,zh]
  simp[ad,ag,fr]
theorem GO{k o n:Nat}{c:Bool}(aC:lY k n (h[o]?)):gU h k (.ms o n 0 n k c)=some (NG (h[o]?)):=by
 obtain⟨es,aG,al,ad,ag⟩:=aej aC
 rw[X6,al,P5,VF]
 simp[ad,ag]
 exact l8 (by omega)
theorem ahf{p:Nat→Bool}{a b:List ah}:dw p (a++b)=(dw p a && dw p b):=by
 induction a with
 | nil=>simp[Xj]
 | cons x a au=>simp only[dS,Pv,au,Bool.and_assoc]
end Go.Abs
