/- Part 7 of the proof of TopSchedule. -/
import Derived.Test.YtogagakgmbkonaaGreatS6
set_option linter.all false
set_option maxRecDepth 100000
set_option maxHeartbeats 4000000
namespace Go.Abs
open Go
variable{P:Program}{pol:c4}{K:eZ}{I:eY}{f:FuncId}{n:Nat}{e:aM}{h:aj}{o:Oper}
theorem atW{n:Nat}:(Nat.cast (no_index (OfNat.ofNat n)):Int)=OfNat.ofNat n:=(fun x=>x) rfl
theorem atZ{cs:List T}:HX (.t (.ip cs))=some (.t (.ip cs)):=(fun x=>x) rfl
theorem at0{o q i k:Nat}:HX (.ref o q i k)=some (.ref o q i k):=(fun x=>x) rfl
theorem ahu{b:Bool}:(b == true)=b:=by cases b<;>rfl
theorem aht{b:Bool}:(b == false) = !b:=by cases b<;>rfl
def DE(neg:Bool):Option Bool→Option ah
 | some b=>some (.t (.aA (.bool (if neg then !b else b))))
 | none=>none
theorem akr{b:Bool}:DE false (some b)=some (.t (.aA (.bool b))):=(fun x=>x) rfl
theorem aks{b:Bool}:DE true (some b)=some (.t (.aA (.bool !b))):=(fun x=>x) rfl
def KQ(P:Program)(neg:Bool)(t:TypeId)(x y:ah):Option ah:=DE neg (mJ P t x y)
theorem aky{neg:Bool}{t:TypeId}{x y:ah}:KQ P neg t x y=DE neg (mJ P t x y):=(fun x=>x) rfl
def nc(P:Program)(neg:Bool)(t:TypeId)(ik il:Operand)(x y:ah):Option ah:=s9 P (if neg then .neq else .eql) t ik il x y
theorem E9{t:TypeId}{x y:Operand}{s:TypeId}(aC:o.op=.binOp .eql t x y s):cc P pol f e h (.raw o)=fB h (nc P false t x y (gx pol e x) (gx pol e y)):=by
 show bj P pol f (gx pol e) h o=_
 simp only[bj,aC,fB,nc]
 rfl
theorem aec{t:TypeId}{x y:Operand}{s:TypeId}(aC:o.op=.binOp .neq t x y s):cc P pol f e h (.raw o)=fB h (nc P true t x y (gx pol e x) (gx pol e y)):=by
 show bj P pol f (gx pol e) h o=_
 simp only[bj,aC,fB,nc]
 rfl
theorem ahw{neg:Bool}{t:TypeId}{ik il:Operand}{xs ys:List T}:nc P neg t ik il (.t (.agg xs)) (.t (.agg ys))=KQ P neg t (.t (.agg xs)) (.t (.agg ys)):=by
 cases neg
 ·simp only[nc,s9,KQ,DE,fJ,et]
  cases mJ P t (.t (.agg xs)) (.t (.agg ys))<;>rfl
 ·simp only[nc,s9,KQ,DE,cQ]
  cases mJ P t (.t (.agg xs)) (.t (.agg ys))<;>rfl
def CJ(neg:Bool)(b c:Bool):Option ah:=if c then some (.t (.aA (.bool (if neg then !b else b))))else none
theorem ayf{b:Bool}:CJ false b true=some (.t (.aA (.bool b))):=(fun x=>x) rfl
theorem ayg{b:Bool}:CJ true b true=some (.t (.aA (.bool !b))):=(fun x=>x) rfl
theorem Xo{neg:Bool}{t:TypeId}{ik il:Operand}{c:Bool}{k:Nat}{x:T}{xs:List T}:nc P neg t ik il (.t (.aP c k (x::xs))) (.t (.aA (.slice none 0 0)))=CJ neg false (mX P t):=by
 cases neg<;>simp only[nc,s9,mJ,CJ,fJ,et,cQ]<;>cases mX P t<;>rfl
theorem ahx{neg:Bool}{t:TypeId}{ik il:Operand}:nc P neg t ik il (.t (.aA (.slice none 0 0))) (.t (.aA (.slice none 0 0)))=CJ neg true (mX P t):=by
 cases neg<;>simp only[nc,s9,mJ,CJ,fJ,et,cQ]<;>cases mX P t<;>rfl
def Gu(size:Nat)(h:aj)(v:ah):Option g4:=if v.cells.length=size∧fX v.cells=true then some (.val (.ms h.length 1 0 1 size false) (h++[.row size [v] 0]))else none
theorem ahv{size:Nat}{v:ah}:Gu size h v=if v.cells.length=size∧fX v.cells=true then some (.val (.ms h.length 1 0 1 size false) (h++[.row size [v] 0]))else none:=(fun x=>x) rfl
theorem aeb{t elem:TypeId}{x:Operand}{parts:Array (Nat × Operand)}{size:Nat}{z:T}(tw:pol.grow f (o.dst.getD 0)=true)(aC:o.op=.buildSlice t 1 parts)(av:parts.toList=[(0,x)])(ax:dB P t=some (.slice elem))(J:eM P elem=some size)(bl:zeroOf P elem=some z)
  (ad:(decide (size≠0) && decide (1*size≤16777216) && decide ((ah.t z).cells.length=size) && fX (ah.t z).cells)=true):cc P pol f e h (.raw o)=Gu size h (gx pol e x):=by
 simp only[fe,ho]at ad
 obtain⟨⟨⟨ad,ag⟩,aJ⟩,bL⟩:=ad
 have af:¬ (size=0∨16777216<1*size∨(ah.t z).cells.length≠size∨fX (ah.t z).cells=false):=by
  rintro(k|k|k|k)
  ·exact ad k
  ·omega
  ·exact k aJ
  ·rw[bL]at k;cases k
 show bj P pol f (gx pol e) h o=_
 simp only[bj,aC,ax,J,bl,av,af,et,nx,tw,Bool.or_true,vx,pB,Gd,se,jc,lF,AO,Gu,gz,nB]
 by_cases az:(gx pol e x).cells.length=size∧fX (gx pol e x).cells=true
 ·rw[a6 ⟨az.1,by omega,by omega,az.2⟩,a6 az]
 ·rw[a2 (fun k=>az ⟨k.1,k.2.2.2⟩),a2 az]
def qA(size bytes:Nat)(z:T)(h:aj):Option Nat→Option Nat→Option g4
 | some n,some m=>if n≤m∧bytes*m≤eQ∧m≤9223372036854775807 then some (.val (.ms h.length n 0 n size (decide (n=m))) (h++[.row size (List.replicate n (.t z)) 0]))else none
 | _,_=>none
theorem atI{size bytes n m:Nat}{z:T}:qA size bytes z h (some n) (some m)=if n≤m∧bytes*m≤eQ∧m≤9223372036854775807 then some (.val (.ms h.length n 0 n size (decide (n=m))) (h++[.row size (List.replicate n (.t z)) 0]))else none:=(fun x=>x) rfl
theorem tT{t elem:TypeId}{l c:Operand}{size bytes:Nat}{z:T}(tw:pol.grow f (o.dst.getD 0)=false)(aC:o.op=.makeSlice t l c)(ax:dB P t=some (.slice elem))(J:eM P elem=some size)(ab:uD P elem=some bytes)(bl:zeroOf P elem=some z)
  (ad:(decide (size≠0) && decide ((ah.t z).cells.length=size) && fX (ah.t z).cells)=true):cc P pol f e h (.raw o)=qA size bytes z h (asNat (gx pol e l)) (asNat (gx pol e c)):=by
 simp only[fe,ho]at ad
 show bj P pol f (gx pol e) h o=_
 simp only[bj,aC,ax,J,ab,bl]
 cases asNat (gx pol e l)with
 | none=>rfl
 | some n =>
  cases asNat (gx pol e c)with
  | none=>rfl
  | some m=>simp only[qA,ad.1.1,ad.1.2,ad.2,ne_eq,Pb,zc,tw,fJ,et]
theorem Nx{t:TypeId}(aC:o.op=.makeMap t none):cc P pol f e h (.raw o)=some (.val (.mp h.length) (h++[.map []])):=by
 show bj P pol f (gx pol e) h o=_
 simp only[bj,aC]
def Bk(l:List (Nat × Nat))(h:aj):Option (List ah)→Option g4
 | some cs=>if fX cs then some (.val (.ref (h.length+l.length) 1 0 0) (h++(q5 l++[.row cs.length [.agg cs] 0])))else none
 | none=>none
theorem alS{l:List (Nat × Nat)}{cs:List ah}:Bk l h (some cs)=if fX cs then some (.val (.ref (h.length+l.length) 1 0 0) (h++(q5 l++[.row cs.length [.agg cs] 0])))else none:=(fun x=>x) rfl
def QA(n off s:Nat)(r:List (Nat × Nat))(cs:List ah):Option ah→Option (List ah)
 | some (.t (.aA (.slice none 0 0)))=>oZ (n+1) r (cs.set off (.ms n 0 0 0 s false))
 | _=>none
theorem alR{n off s:Nat}{r:List (Nat × Nat)}{cs:List ah}:QA n off s r cs (some (.t (.aA (.slice none 0 0))))=oZ (n+1) r (cs.set off (.ms n 0 0 0 s false)):=(fun x=>x) rfl
theorem alv{n:Nat}{cs:List ah}:oZ n [] cs=some cs:=(fun x=>x) rfl
theorem alu{n off s:Nat}{r:List (Nat × Nat)}{cs:List ah}:oZ n ((off,s)::r) cs=QA n off s r cs (cs[off]?):=by
 simp only[oZ,QA]
 split<;>simp_all
theorem alC:q5 []=[]:=(fun x=>x) rfl
theorem alB{off s:Nat}{r:List (Nat × Nat)}:q5 ((off,s)::r)=.row s [] 0::q5 r:=(fun x=>x) rfl
def YQ(P:Program)(t:TypeId):Option (List (Nat × Nat)):=match dB P t with
 | some (.struct fields)=>G3 P fields.toList
 | _=>none
theorem Jg{t:TypeId}{jU:List T}{l:List (Nat × Nat)}(aC:o.op=.alloc t)(ay:pol.grow f (o.dst.getD 0)=true)(bl:zeroOf P t=some (.agg jU))(ao:YQ P t=some l) :
  cc P pol f e h (.raw o)=Bk l h (oZ h.length l (jU.map .t)):=by
 show bj P pol f (gx pol e) h o=_
 unfold YQ at ao
 split at ao
 ·rename_i fields ax
  simp only[bj,aC,ay,cQ,bl,ax,ao]
  cases oZ h.length l (jU.map .t)<;>rfl
 ·cases ao
def M5(off:Nat)(jU:List T):Option ah→ah
 | some dy=>.agg (sB (dy.cells.drop off) (jU.map .t))
 | none=>.t (.agg jU)
def UI(i off:Nat)(jU:List T):Option a9→ah
 | some (.row _ es _)=>M5 off jU (es[i]?)
 | _=>.t (.agg jU)
theorem asM{o q i off:Nat}{jU:List T}:x8 h (.ref o q i off) (.t (.agg jU))=UI i off jU (h[o]?):=by
 simp only[x8,UI]
 cases h[o]? with
 | none=>rfl
 | some y=>cases y with
  | row k es aG=>simp only[M5];cases es[i]?<;>rfl
  | _=>rfl
theorem asK{i off k aG:Nat}{jU:List T}{es:List ah}:UI i off jU (some (.row k es aG))=M5 off jU (es[i]?):=(fun x=>x) rfl
theorem asL{off:Nat}{jU:List T}{dy:ah}:M5 off jU (some dy)=.agg (sB (dy.cells.drop off) (jU.map .t)):=(fun x=>x) rfl
theorem asz{mu:List ah}:sB [] mu=mu:=(fun x=>x) rfl
theorem asy{o s:Nat}{c:Bool}{os mu:List ah}:sB (.ms o 0 0 0 s c::os) (.t (.aA (.slice none 0 0))::mu)=.ms o 0 0 0 s c::sB os mu:=(fun x=>x) rfl
theorem asA{x:T}{n:ah}{os mu:List ah}:sB (.t x::os) (n::mu)=n::sB os mu:=(fun x=>x) rfl
theorem VA{t:TypeId}{a x:Operand}{n:Nat}(aC:o.op=.store t a x)(an:M1 P pol f t x=true)(aw:eM P t=some n):cc P pol f e h (.raw o)=q6 (v8 n (gx pol e a) (x8 h (gx pol e a) (gx pol e x)) h):=by
 show bj P pol f (gx pol e) h o=_
 have hR:EZ P pol f t a x=none:=by
  unfold M1 at an
  unfold EZ
  split at an
  ·cases a<;>rfl
  ·cases an
 simp only[bj,aC,IT,hR,an,cQ,YY]
 rw[W8 aw]
 rfl
def nn(P:Program)(t:TypeId)(ok:Bool)(h:aj)(x ix:ah):Option ah:=Df P t x ix ok h
theorem Nw{t:TypeId}{x ix:Operand}{ok:Bool}(aC:o.op=.lookup t x ix ok):cc P pol f e h (.raw o)=fB h (nn P t ok h (gx pol e x) (gx pol e ix)):=by
 show bj P pol f (gx pol e) h o=_
 simp only[bj,aC,fB,nn]
 rfl
def ua(P:Program)(t:TypeId)(h:aj)(m k x:ah):Option aj:=zf P t m k x h
theorem Ny{t:TypeId}{m k x:Operand}(aC:o.op=.mapUpdate t m k x):cc P pol f e h (.raw o)=q6 (ua P t h (gx pol e m) (gx pol e k) (gx pol e x)):=by
 show bj P pol f (gx pol e) h o=_
 simp only[bj,aC,q6,ua]
 rfl
def iJ(h:aj):Option T→Option (ah × aj)
 | some r=>if r.plain then some (.t r,h)else none
 | none=>none
def Kx(K:eZ)(I:eY)(g:FuncId)(args:List ah)(h:aj):Option (List T)→Option (ah × aj)
 | some aq=>iJ h (K g aq)
 | none=>alive (I (.fn g) args h)
theorem asx{r:T}:iJ h (some r)=if r.plain then some (.t r,h)else none:=(fun x=>x) rfl
theorem aiy{g:FuncId}{args:List ah}{aq:List T}:Kx K I g args h (some aq)=iJ h (K g aq):=(fun x=>x) rfl
theorem aix{g:FuncId}{args:List ah}:Kx K I g args h none=alive (I (.fn g) args h):=(fun x=>x) rfl
theorem aiz{g:FuncId}{args:List ah}:GA K I g args h none=Kx K I g args h (b5 (snap h ez 20) args):=by
 simp only[GA,Kx]
 cases b5 (snap h ez 20) args with
 | none=>rfl
 | some aq=>simp only[iJ];cases K g aq<;>rfl
def Av:List T→Bool
 | []=>true
 | .aA _::r=>Av r
 | _::_=>false
theorem axS:Av []=true:=(fun x=>x) rfl
theorem axR{v:Value}{r:List T}:Av (.aA v::r)=Av r:=(fun x=>x) rfl
theorem aev(cs:List T):(cs.all fun|.aA _=>true|_=>false)=Av cs:=by
 induction cs with
 | nil=>rfl
 | cons c cs au=>cases c<;>simp[Av,Ga,au]
theorem avn{v:Value}:(T.aA v).plain=true:=(fun x=>x) rfl
theorem avm{cs:List T}:(T.agg cs).plain=Av cs:=by simp only[T.plain];exact aev cs
def Aj:List T→Bool
 | []=>true
 | x::r=>(match x with|.aA _=>true|.agg cs=>Av cs|_=>false) && Aj r
theorem ava:Aj []=true:=(fun x=>x) rfl
theorem avb{v:Value}{r:List T}:Aj (.aA v::r)=Aj r:=by simp[Aj]
theorem avo{vs:List T}:(T.ch vs).plain=Aj vs:=by
 simp only[T.plain]
 induction vs with
 | nil=>rfl
 | cons c cs au =>
  simp only[Ga,Aj,au]
  cases c with
  | agg xs=>exact congrArg (fun b=>b && Aj cs) (aev xs)
  | _=>rfl
def CL(h:aj)(d off:Nat):Option ah→Option T
 | some v=>Jx off (b5 (snap h ez d) v.cells)
 | none=>none
where Jx (off:Nat):Option (List T)→Option T
 | some aq=>some (.ip (aq.drop off))
 | none=>none
theorem ayn{off:Nat}{aq:List T}:CL.Jx off (some aq)=some (.ip (aq.drop off)):=(fun x=>x) rfl
theorem ayo{d off:Nat}{v:ah}:CL h d off (some v)=CL.Jx off (b5 (snap h ez d) v.cells):=(fun x=>x) rfl
theorem ayt{d o q i off:Nat}:snap h ez (d+1) (.ref o q i off)=CL h d off (rowAt h o q i):=by
 simp only[snap,CL,ez,cQ]
 cases rowAt h o q i with
 | none=>rfl
 | some v=>simp only[CL.Jx];cases b5 (snap h (fun _=>true) d) v.cells<;>rfl
theorem ayr{d o:Nat}:snap h ez (d+1) (.mp o)=none:=(fun x=>x) rfl
theorem ajp{r:Option (List T)}:KD r none=none:=(fun x=>x) rfl
theorem at6{x:T}:names (.t x)=[]:=by simp[names]
theorem at4{o q i l k:Nat}{c:Bool}:names (.ms o q i l k c)=[o]:=by simp[names]
theorem at2{cs:List ah}:names (.agg cs)=jF cs:=by simp[names]
theorem at5:jF []=[]:=by simp[jF]
theorem at3{v:ah}{r:List ah}:jF (v::r)=names v++jF r:=by simp[jF]
theorem aeJ{p:Nat→Bool}{d:Nat}{x:T}:snap h p d (.t x)=some x:=by cases d<;>rfl
theorem atx{p:Nat→Bool}{d:Nat}:b5 (snap h p d) []=some []:=(fun x=>x) rfl
theorem adh{p:Nat→Bool}{d:Nat}{x:ah}{l:List ah}:b5 (snap h p d) (x::l)=KD (b5 (snap h p d) l) (snap h p d x):=by
 simp only[b5]
 cases snap h p d x<;>cases b5 (snap h p d) l<;>rfl
theorem atw{p:Nat→Bool}{d:Nat}{xs:List T}:b5 (snap h p d) (xs.map .t)=some xs:=by
 induction xs with
 | nil=>rfl
 | cons x xs au=>rw[gz,adh,au,aeJ,PT,PS]
theorem ayz{p:Nat→Bool}{d:Nat}{cs:List ah}:snap h p (d+1) (.agg cs)=aeG (b5 (snap h p d) cs):=by
 simp only[snap]
 cases b5 (snap h p d) cs<;>rfl
theorem ak0{g:FuncId}{a b:List ah}{x:Option (List T)}:KX g a b x none=.fn (.func g) a b:=by cases x<;>rfl
theorem agW{fj:List (Nat × Nat)}{aq:List (Option (List Nat))}{Q:Prop}(ad:nO fj aq=true)(ag:Q):nO fj aq=true∧Q:=⟨ad,ag⟩
theorem lp{g:FuncId}{dp:Nat}{c:C}{rs:List (Nat × Option (Bool × Nat))}{args:List ah}{d:Nat}{k:ah→aj→Prop}(eA:lL P pol g=some ⟨dp,c,rs⟩)(ao:args.length≤dp)
  (hw:c6 P pol K (inl P pol K n d) n g c (xl rs k) (pH args) h):ej (inl P pol K n (d+1) (.fn g) args h) k:=by
 obtain⟨v,ai,ad,ag⟩:=arD eA ao hw
 rw[ad]
 exact ag
end Go.Abs
