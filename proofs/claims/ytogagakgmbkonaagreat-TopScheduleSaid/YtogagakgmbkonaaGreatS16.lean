/- Part 16 of the proof of TopSchedule. -/
import Derived.Test.YtogagakgmbkonaaGreatS15
set_option linter.all false
set_option maxRecDepth 100000
set_option maxHeartbeats 4000000
namespace Go.Abs
open Go
variable{P:Program}{e4 α:Type}[DecidableEq e4]
structure yV(P:Program)(fG:TypeId)(dH:e4→Value):Prop where
 ok:∀ a,iL (dH a)=true
 key:∀ a,qx P 20 fG (fb (dH a))=true
 eq:∀ a b,ot P 20 fG (fb (dH a)) (fb (dH b))=some (decide (a=b))
 bits:∀ a,Instr.sameBits 10000 (dH a) (dH a)=true
def gZ(l:List (e4 × α))(k:e4):Option α :=
 match l with
 | []=>none
 | (bg,v)::r=>if bg=k then some v else gZ r k
def mY(l:List (e4 × α))(k:e4)(v:α):List (e4 × α) :=
 match l with
 | []=>[(k,v)]
 | (bg,bU)::r=>if bg=k then(k,v)::r else(bg,bU)::mY r k v
theorem Cl(l:List (e4 × α))(k bg:e4)(v:α):gZ (mY l k v) bg=if k=bg then some v else gZ l bg:=by
 induction l with
 | nil=>simp[mY,gZ]
 | cons p r au =>
  obtain⟨q,w⟩:=p
  rw[mY]
  by_cases ad:q=k
  ·rw[a6 ad,gZ,gZ]
   by_cases ag:k=bg
   ·simp[ag]
   ·simp[ag,ad]
  ·rw[a2 ad,gZ,gZ,au]
   by_cases ag:q=bg
   ·simp only[ag,cQ]
    rw[a2 (fun h=>ad (by rw[ag,h]))]
   ·simp[ag]
def fk(dH:e4→Value)(f:α→ah)(l:List (e4 × α)):List (Value × ah):=l.map fun p=>(dH p.1,f p.2)
theorem Qd{fG:TypeId}{dH:e4→Value}(K:yV P fG dH)(f:α→ah)(k:e4):∀(l:List (e4 × α)) (i:Nat),sf P fG (dH k) (fk dH f l) i=some ((l.findIdx? (fun p=>decide (p.1=k))).map (· + i)):=by
 intro l
 induction l with
 | nil=>intro i;simp[fk,sf]
 | cons p r au =>
  intro i
  have aas:=au (i+1)
  simp only[fk]at aas ⊢
  rw[gz,sf]
  rw[a6 (K.ok _),K.eq]
  by_cases h:k=p.1
  ·subst h
   simp only[decide_true,K.bits,cQ,JZ,r5,nD]
  ·have ai:¬ p.1=k:=fun e=>h e.symm
   simp only[bA h,aas,JZ,bA ai,fJ,et,Option.map_map]
   congr 1
   congr 1
   funext x
   simp only[Function.comp]
   omega
theorem adk(l:List (e4 × α))(k:e4):(match l.findIdx? (fun p=>decide (p.1=k))with|some i=>(l[i]?).map (·.2)|none=>none)=gZ l k:=by
 induction l with
 | nil=>rfl
 | cons p r au =>
  rw[JZ,gZ]
  by_cases h:p.1=k
  ·simp[h]
  ·simp only[bA h,fJ,et,a2 h,← au]
   cases List.findIdx? (fun p=>decide (p.1=k)) r with
   | none=>rfl
   | some i=>simp
theorem adl{l:List (e4 × α)}{k:e4}(h:l.findIdx? (fun p=>decide (p.1=k))=none):gZ l k=none:=by
 have:=adk l k
 rw[h]at this
 exact this.symm
theorem adm{l:List (e4 × α)}{k:e4}{i:Nat}(h:l.findIdx? (fun p=>decide (p.1=k))=some i):∃ bg v,l[i]? = some (bg,v)∧gZ l k=some v:=by
 have ao:=adk l k
 rw[h]at ao
 simp only at ao
 have hi:i<l.length:=by
  have:=List.findIdx?_eq_some_iff_findIdx_eq.1 h
  exact this.1
 refine⟨(l[i]).1,(l[i]).2,by simp[hi],?_⟩
 rw[← ao]
 simp[hi]
def ym(z:T)(f:α→ah):Option α→ah
 | some v=>f v
 | none=>.t z
theorem Wc{v:Value}(h:iL v=true):(fb v).val? = some v:=by
 cases v with
 | agg cs =>
  simp only[fb,T.val?]
  have:∀ l:List Value,yA (l.map T.aA)=some l:=by
   intro l
   induction l with
   | nil=>rfl
   | cons x l au=>simp only[gz,yA,au]
  rw[this]
 | _=>rfl
theorem ac7{t fG elem:TypeId}{dH:e4→Value}{f:α→ah}{z:T}{h:aj}{o:Nat}{l:List (e4 × α)}(K:yV P fG dH)(ax:dB P t=some (.map fG elem))(bl:zeroOf P elem=some z)(k:e4)
  (aC:h[o]? = some (.map (fk dH f l))):nn P t false h (.mp o) (.t (fb (dH k)))=some (ym z f (gZ l k)):=by
 simp only[nn,Df,ax,ah.val?,Wc (K.ok k),aC,K.ok k,K.key k,uu,cQ,Qd K f k l 0]
 cases aI:l.findIdx? (fun p=>decide (p.1=k))with
 | none=>simp only[O4,bl,adl aI,ym];rfl
 | some i =>
  obtain⟨bg,v,ad,ag⟩:=adm aI
  have aJ:(fk dH f l)[i]? = some (dH bg,f v):=by simp[fk,ad]
  simp only[r5,s0,aJ,ag,ym]
  rfl
theorem ac8{t fG elem:TypeId}{dH:e4→Value}{f:α→ah}{z:T}{h:aj}{o:Nat}{l:List (e4 × α)}(K:yV P fG dH)(ax:dB P t=some (.map fG elem))(bl:zeroOf P elem=some z)(k:e4)
  (aC:h[o]? = some (.map (fk dH f l))):nn P t true h (.mp o) (.t (fb (dH k)))=some (oC [ym z f (gZ l k),.t (.aA (.bool (gZ l k).isSome))]):=by
 simp only[nn,Df,ax,ah.val?,Wc (K.ok k),aC,K.ok k,K.key k,uu,cQ,Qd K f k l 0]
 cases aI:l.findIdx? (fun p=>decide (p.1=k))with
 | none=>simp only[O4,bl,adl aI,ym];rfl
 | some i =>
  obtain⟨bg,v,ad,ag⟩:=adm aI
  have aJ:(fk dH f l)[i]? = some (dH bg,f v):=by simp[fk,ad]
  simp only[r5,s0,aJ,ag,ym]
  rfl
theorem atM(l:List (e4 × α))(k:e4)(v:α):mY l k v=match l.findIdx? (fun p=>decide (p.1=k))with|some i=>l.set i (k,v)|none=>l++[(k,v)]:=by
 induction l with
 | nil=>rfl
 | cons p r au =>
  obtain⟨q,w⟩:=p
  rw[mY,JZ]
  by_cases h:q=k
  ·simp[h]
  ·simp only[bA h,fJ,et,au]
   cases List.findIdx? (fun p=>decide (p.1=k)) r with
   | none=>simp[h]
   | some i=>simp[h]
theorem Oe{t fG elem:TypeId}{dH:e4→Value}{f:α→ah}{h:aj}{o:Nat}{l:List (e4 × α)}(K:yV P fG dH)(ax:dB P t=some (.map fG elem))(k:e4)(v:α)
  (aC:h[o]? = some (.map (fk dH f l))):ua P t h (.mp o) (.t (fb (dH k))) (f v)=some (h.set o (.map (fk dH f (mY l k v)))):=by
 simp only[ua,zf,ax,ah.val?,Wc (K.ok k),aC,K.ok k,K.key k,uu,cQ,Qd K f k l 0,atM]
 cases aI:l.findIdx? (fun p=>decide (p.1=k))with
 | none=>simp only[O4,fk,ux,gz,nB]
 | some i=>simp only[r5,s0,fk,y9]
omit [DecidableEq e4] in
theorem alo{dH:e4→Value}{f:α→ah}{l:List (e4 × α)}{h:aj}{p:Nat→Bool}(aI:∀ v,∃ x,f v=.t x):dk h p (.map (fk dH f l))=some (.map (fk dH f l)):=by
 have:(fk dH f l).all (fun dF=>cL p dF.2)=true:=by
  rw[jY]
  intro dF jm
  simp only[fk,nE]at jm
  obtain⟨q,_,rfl⟩:=jm
  obtain⟨x,U⟩:=aI q.2
  simp[U,cL]
 simp only[dk,this,cQ]
theorem asI{fG:TypeId}(ax:dB P fG=some (.int .i64)):yV P fG (fun n:Int=>Value.int .i64 n) where
 ok _:=rfl
 key a:=by simp[qx,fb,ax]
 eq a b:=by
  simp only[ot,fb,ax,cQ]
  congr 1
 bits a:=by simp[Instr.sameBits]
end Go.Abs
