/- Part 6 of the proof of TopSchedule. -/
import Derived.Test.YtogagakgmbkonaaGreatS5
set_option linter.all false
set_option maxRecDepth 100000
set_option maxHeartbeats 4000000
namespace Go.Abs
open Go
inductive dQ(df ρ:Type) where
 | go (s:df)
 | out (r:ρ)
variable{df ρ α:Type}{cF:Nat}{live:Option (List Tmp)}{body:(cW→aM→aj→Prop)→aM→aj→Prop}
def GK(St:df→aM→aj→Prop)(Ex:ρ→cW→aM→aj→Prop)(Y:aM→aj→Prop)(R:cW→aM→aj→Prop):dQ df ρ→Prop
 | .go s=>∀ e h,St s e h→Y e h
 | .out r=>∀ x e h,Ex r x e h→R x e h
theorem g6{St:df→aM→aj→Prop}{Ex:ρ→cW→aM→aj→Prop}{Y:aM→aj→Prop}{R:cW→aM→aj→Prop}{s:df}:GK St Ex Y R (.go s)=∀ e h,St s e h→Y e h:=rfl
theorem lg{St:df→aM→aj→Prop}{Ex:ρ→cW→aM→aj→Prop}{Y:aM→aj→Prop}{R:cW→aM→aj→Prop}{r:ρ}:GK St Ex Y R (.out r)=∀ x e h,Ex r x e h→R x e h:=rfl
def Cx(step:df→dQ df ρ):Nat→df→Option ρ
 | 0,_=>none
 | m+1,s=>match step s with
  | .go s=>Cx step m s
  | .out r=>some r
theorem ate{step:df→dQ df ρ}{St:df→aM→aj→Prop}{Ex:ρ→cW→aM→aj→Prop}
  (mn:∀ s e h Y R,St s e h→GK St Ex Y R (step s)→body (ru cF Y R) (eR live e) h) {R:cW→aM→aj→Prop} {r:ρ} (bk:∀ x e h,Ex r x e h→R x e h) :
  ∀(m:Nat) (s:df) (e:aM) (h:aj),Cx step m s=some r→St s e h→gP cF live body R m e h:=by
 intro m
 induction m with
 | zero=>intro s e h al;simp[Cx]at al
 | succ m au =>
  intro s e h al J
  rw[IM]
  refine mn s e h _ R J ?_
  simp only[Cx]at al
  cases aS:step s with
  | go s'=>rw[aS]at al;exact fun e h J=>au s' e h al J
  | out qG=>rw[aS]at al;simp only[Option.some.injEq]at al;subst al;exact bk
def gJ(step:Nat→α→df→dQ df ρ)(fin:df→ρ):Nat→List α→df→ρ
 | _,[],s=>fin s
 | i,x::l,s=>match step i x s with
  | .go s=>gJ step fin (i+1) l s
  | .out r=>r
theorem ak4{step:Nat→α→df→dQ df ρ}{fin:df→ρ}{i:Nat}{s:df}:gJ step fin i [] s=fin s:=rfl
theorem ng{step:Nat→α→df→dQ df ρ}{fin:df→ρ}{i:Nat}{x:α}{l:List α}{s s':df}(h:step i x s=.go s'):gJ step fin i (x::l) s=gJ step fin (i+1) l s':=by simp only[gJ,h]
theorem q3{step:Nat→α→df→dQ df ρ}{fin:df→ρ}{i:Nat}{x:α}{l:List α}{s:df}{r:ρ}(h:step i x s=.out r):gJ step fin i (x::l) s=r:=by simp only[gJ,h]
theorem k4(l:List α)(enc:α→T){step:Nat→α→df→dQ df ρ}{fin:df→ρ}{St:Nat→df→aM→aj→Prop}{Ex:ρ→cW→aM→aj→Prop}(ao:l.length<9223372036854775808)
  (iD:∀ i x s e h Y R,x∈l→i<l.length→l[i]? = some x→(l.map enc)[i]? = some (enc x)→decide ((i:Int)<(l.length:Int))=true→IntKind.i64.wrap ((i:Int)+1)=((i+1:Nat):Int)→St i s e h→GK (St (i+1)) Ex Y R (step i x s)→body (ru cF Y R) (eR live e) h)
  (mR:∀ s e h Y R,decide ((l.length:Int)<(l.length:Int))=false→St l.length s e h→(∀ x e h,Ex (fin s) x e h→R x e h)→body (ru cF Y R) (eR live e) h)
  {R:cW→aM→aj→Prop} {s:df} {m:Nat} {e:aM} {h:aj} (hm:l.length<m) (J:St 0 s e h) (bk:∀ x e h,Ex (gJ step fin 0 l s) x e h→R x e h):gP cF live body R m e h:=by
 have main:∀(rest pre:List α) (s:df) (m:Nat) (e:aM) (h:aj),l=pre++rest→rest.length<m→St pre.length s e h→(∀ x e h,Ex (gJ step fin pre.length rest s) x e h→R x e h)→gP cF live body R m e h:=by
  intro rest
  induction rest with
  | nil =>
   intro pre s m e h av hm J bk
   obtain⟨k,rfl⟩:∃ k,m=k+1:=⟨m-1,by simp at hm;omega⟩
   rw[IM]
   have iG:pre.length=l.length:=by rw[av];simp
   rw[iG]at J
   exact mR s e h _ R (by simp) J bk
  | cons x rest au =>
   intro pre s m e h av hm J bk
   obtain⟨k,rfl⟩:∃ k,m=k+1:=⟨m-1,by simp at hm;omega⟩
   rw[IM]
   have iG:pre.length<l.length:=by rw[av];simp
   have U:l[pre.length]? = some x:=by rw[av];simp
   refine iD pre.length x s e h _ R (gp U) iG U (by simp[U]) (by simp;exact iG) (by rw[wrap_i64 (by omega) (by omega)];rfl) J ?_
   cases aS:step pre.length x s with
   | out r=>rw[q3 aS]at bk;exact bk
   | go s' =>
    rw[ng aS]at bk
    intro bs ai gl
    refine au (pre++[x]) s' k bs ai (by simp[av]) (by simp at hm;omega) (by simpa using gl) (by simpa using bk)
 exact main l [] s m e h rfl hm J bk
theorem wj(n:Nat){step:Nat→df→dQ df ρ}{fin:df→ρ}{St:Nat→df→aM→aj→Prop}{Ex:ρ→cW→aM→aj→Prop}(ao:n<9223372036854775808)
  (iD:∀ i s e h Y R,i<n→decide ((i:Int)<(n:Int))=true→IntKind.i64.wrap ((i:Int)+1)=((i+1:Nat):Int)→St i s e h→GK (St (i+1)) Ex Y R (step i s)→body (ru cF Y R) (eR live e) h)
  (mR:∀ s e h Y R,decide ((n:Int)<(n:Int))=false→St n s e h→(∀ x e h,Ex (fin s) x e h→R x e h)→body (ru cF Y R) (eR live e) h)
  {R:cW→aM→aj→Prop} {s:df} {m:Nat} {e:aM} {h:aj} (hm:n<m) (J:St 0 s e h) (bk:∀ x e h,Ex (gJ (fun i _ s=>step i s) fin 0 (List.replicate n ()) s) x e h→R x e h):gP cF live body R m e h:=by
 refine k4 (l:=List.replicate n ()) (enc:=fun _=>.aA (.bool true)) (step:=fun i _ s=>step i s) (fin:=fin) (St:=St) (Ex:=Ex) (by simpa using ao) ?_ ?_ (by simpa using hm) J bk
 ·intro i x s e h Y R _ hi _ _ aF hw J an
  simp only[ic]at hi aF
  exact iD i s e h Y R hi aF hw J an
 ·intro s e h Y R aF J bk
  simp only[ic]at aF J
  exact mR s e h Y R aF J bk
theorem wc{cF:Nat}{live:Option (List Tmp)}{body:(cW→aM→aj→Prop)→aM→aj→Prop}{R:cW→aM→aj→Prop}{e:aM}{h:aj}{k:Nat}(an:0<k)
  (ab:body (ru cF (gP cF live body R (k-1)) R) (eR live e) h):gP cF live body R k e h:=by
 obtain⟨m,rfl⟩:∃ m,k=m+1:=⟨k-1,by omega⟩
 rw[IM]
 exact ab
theorem UO{enc:α→T}{Q:α→Prop}:∀ {xs:List T},(∀ y∈xs,∃ a,y=enc a∧Q a)→∃ l:List α,xs=l.map enc∧∀ a∈l,Q a:=by
 intro xs
 induction xs with
 | nil=>intro _;exact⟨[],rfl,fun _ h=>(by cases h)⟩
 | cons x xs au =>
  intro h
  obtain⟨a,rfl,aE⟩:=h x (by simp)
  obtain⟨l,rfl,ao⟩:=au (fun y ar=>h y (by simp[ar]))
  refine⟨a::l,rfl,fun b ab=>?_⟩
  cases ab with
  | head=>exact aE
  | tail _ ab=>exact ao b ab
theorem ak3{p:α→Bool}:∀(l:List α) (i:Nat) (u:Unit),gJ (fun _ x (_:Unit)=>if p x then .go ()else .out false) (fun _=>true) i l u=l.all p:=by
 intro l
 induction l with
 | nil=>intro i u;rfl
 | cons x l au =>
  intro i u
  simp only[gJ,Ga]
  cases p x with
  | true=>simpa using au _ _
  | false=>rfl
theorem Qj{f:df→α→df}{fin:df→ρ}:∀(l:List α) (i:Nat) (s:df),gJ (fun _ x s=>.go (f s x)) fin i l s=fin (l.foldl f s):=by
 intro l
 induction l with
 | nil=>intro i s;rfl
 | cons x l au=>intro i s;simp only[gJ,p8];exact au _ _
end Go.Abs
