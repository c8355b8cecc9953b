/- Part 3 of the proof of TopSchedule. -/
import Derived.Test.YtogagakgmbkonaaGreatS2
import Derived.ProofKit
import Derived.SizedLaws
import GoSem.Core.View
import GoSem.Claim
set_option linter.all false
set_option maxRecDepth 100000
set_option maxHeartbeats 4000000
/- From the given statement to the evaluator: arguments that read as data stand for trees; a law whose evaluation answers true on all trees of its parameters' types holds. -/
namespace Go.Abs
open Go Go.RowKit Go.WideShapes Go.ChangeShapes
variable{P:Program}{pol:c4}
def ti(P:Program)(F:TypeId→List T→Prop)(t:TypeId)(x:T):Prop :=
 match nJ P t with
 | some true=>∃ cs,x=.agg cs∧F t cs
 | _=>F t [x]
def nz(P:Program):Nat→TypeId→List T→Prop
 | 0,_,_=>False
 | d+1,t,cs =>
  match P.underlying t with
  | some .bool=>∃ b,cs=[.aA (.bool b)]
  | some (.int k)=>∃ n,cs=[.aA (.int k n)]∧(Lit.int k n).wf=true
  | some .string=>∃ s,cs=[.aA (.string s)]∧s.size≤maxLen
  | some (.slice e)=>∃ xs,cs=[.aP false (P.cellsOf e) xs]∧(xs.length≤maxLen∧xs.length*P.bytesOf e≤reachBytes)∧∀ x∈xs,ti P (nz P d) e x
  | some (.struct fE)=>cs.length=P.cellsOf t∧∀ f∈fE.toList,nz P d f.type ((cs.drop f.offset).take (P.cellsOf f.type))
  | some (.array n e)=>cs.length=P.cellsOf t∧∀ i,i<n→nz P d e ((cs.drop (i*P.cellsOf e)).take (P.cellsOf e))
  | _=>False
def yS(P:Program)(d:Nat):List TypeId→List T→Prop
 | [],[]=>True
 | t::aq,x::xs=>ti P (nz P d) t x∧yS P d aq xs
 | _,_=>False
def rC(P:Program)(total:Nat):Nat→List Field→Bool
 | off,[]=>off == total
 | off,f::r=>f.offset == off && rC P total (off+P.cellsOf f.type) r
def rH(P:Program):Nat→TypeId→Bool
 | 0,_=>false
 | d+1,t =>
  match P.underlying t with
  | some .bool=>true
  | some (.int _)=>true
  | some .string=>true
  | some (.slice e)=>decide (0<P.cellsOf e) && rH P d e
  | some (.struct fE)=>rC P (P.cellsOf t) 0 fE.toList && fE.toList.all fun f=>rH P d f.type
  | some (.array n e)=>P.cellsOf t == n*P.cellsOf e && rH P d e
  | _=>false
def l3(D:c8)(w:World)(vs:List Value)(aq:List T):Prop :=
 vs.length=aq.length∧∀(i:Nat) v x,vs[i]? = some v→aq[i]? = some x→eO D w v x∧mv v=true
section
variable{D:c8}{w:World}
theorem l3.nil:l3 D w [] []:=⟨rfl,by simp⟩
theorem l3.append{vs j6:List Value}{aq ae6:List T}(h:l3 D w vs aq)(ai:l3 D w j6 ae6):l3 D w (vs++j6) (aq++ae6):=by
 refine⟨by simp[h.1,ai.1],fun i v x az U=>?_⟩
 by_cases hi:i<vs.length
 ·rw[fv hi]at az
  rw[fv (by rw[← h.1];exact hi)]at U
  exact h.2 i v x az U
 ·rw[g5 (by omega)]at az
  rw[g5 (by rw[← h.1];omega)]at U
  rw[← h.1]at U
  exact ai.2 _ v x az U
theorem l3.one{v:Value}{x:T}(h:eO D w v x)(aC:mv v=true):l3 D w [v] [x]:=by
 refine⟨rfl,fun i u y hu ar=>?_⟩
 cases i with
 | zero=>simp at hu ar;subst hu;subst ar;exact⟨h,aC⟩
 | succ i=>simp at hu
end
theorem acZ{total:Nat}:∀ {fE:List Field} {off:Nat},rC P total off fE=true→off≤total:=by
 intro fE
 induction fE with
 | nil=>intro off h;simp[rC]at h;omega
 | cons f r au =>
  intro off h
  simp only[rC,fe]at h
  have:=au h.2
  omega
theorem acY{total:Nat}:∀ {fE:List Field} {off:Nat},rC P total off fE=true→∀ f∈fE,off≤f.offset:=by
 intro fE
 induction fE with
 | nil=>intro off h f aI;cases aI
 | cons g r au =>
  intro off h f aI
  simp only[rC,fe,AU]at h
  cases aI with
  | head=>omega
  | tail _ aI=>have:=au h.2 f aI;omega
theorem mapM_some{α β:Type}{f:α→Option β}:∀ {l:List α} {r:List β},l.mapM f=some r→r.length=l.length∧∀ a∈l,∃ b,f a=some b:=by
 intro l
 induction l with
 | nil=>intro r h;simp at h;subst h;exact⟨rfl,by simp⟩
 | cons a l au =>
  intro r h
  rw[Dd]at h
  cases aI:f a with
  | none=>simp[aI]at h
  | some b =>
   cases ao:l.mapM f with
   | none=>simp[aI,ao]at h
   | some gB =>
    simp[aI,ao]at h
    subst h
    obtain⟨ad,ag⟩:=au ao
    refine⟨by simp[ad],fun c af=>?_⟩
    cases af with
    | head=>exact⟨b,aI⟩
    | tail _ af=>exact ag c af
theorem alL{D:c8}{w:World}{k:Nat}{F:List T→Prop}{cs:List Value}:∀(n:Nat),n*k≤cs.length→(∀ i,i<n→∃ aq,F aq∧l3 D w ((cs.drop (i*k)).take k) aq) →
  ∃ aq,l3 D w (cs.take (n*k)) aq∧∀ i,i<n→F ((aq.drop (i*k)).take k):=by
 intro n
 induction n with
 | zero=>intro _ _;exact⟨[],by simpa using l3.nil,fun i hi=>by omega⟩
 | succ n au =>
  intro ao h
  have j3:n*k+k≤cs.length:=by rw[oh]at ao;exact ao
  obtain⟨aq,ad,ag⟩:=au (by omega) (fun i hi=>h i (by omega))
  obtain⟨us,aJ,bL⟩:=h n (by omega)
  have dI:aq.length=n*k:=by rw[← ad.1,r4];omega
  have nW:us.length=k:=by rw[← bL.1,r4,J3];omega
  refine⟨aq++us,?_,fun i hi=>?_⟩
  ·have:=ad.append bL
   rwa[← List.take_add,← oh]at this
  ·by_cases hf:i=n
   ·subst hf
    rw[WO (by omega),y5 (by omega),ea,l8 (by omega)]
    exact aJ
   ·have fz:i<n:=by omega
    have xJ:i*k+k≤n*k:=by rw[← oh];exact jB _ fz
    rw[WO (by omega),WQ (by rw[J3];omega)]
    exact ag i fz
theorem alK{D:c8}{w:World}{F:TypeId→List T→Prop}{cs:List Value}{total:Nat}(hlen:cs.length=total):∀(fE:List Field) (off:Nat),rC P total off fE=true →
  (∀ f∈fE,∃ aq,F f.type aq∧l3 D w ((cs.drop f.offset).take (P.cellsOf f.type)) aq)→∃ aq,l3 D w (cs.drop off) aq∧∀ f∈fE,F f.type ((aq.drop (f.offset-off)).take (P.cellsOf f.type)):=by
 intro fE
 induction fE with
 | nil =>
  intro off h _
  simp[rC]at h
  refine⟨[],?_,by simp⟩
  rw[y5 (by omega)]
  exact l3.nil
 | cons f r au =>
  intro off h aI
  have ai:=h
  simp only[rC,fe,AU]at h
  obtain⟨e,al⟩:=h
  obtain⟨aq,ad,ag⟩:=au _ al (fun g ay=>aI g (by simp[ay]))
  obtain⟨us,aJ,bL⟩:=aI f (by simp)
  have hle:=acZ al
  rw[e]at bL
  have nW:us.length=P.cellsOf f.type:=by rw[← bL.1,r4,J3];omega
  refine⟨us++aq,?_,fun g ay=>?_⟩
  ·have:=bL.append ad
   rwa[← Kd,C6]at this
  ·cases ay with
   | head =>
    rw[e,nC,l6,WQ (by omega),l8 (by omega)]
    exact aJ
   | tail _ ay =>
    have nj:=acY al g ay
    have:=ag g ay
    rwa[List.drop_append,y5 (by omega),ea,nW,Nat.sub_sub]
theorem XC{w:World}{a:Addr}{v:Value}(h:w.cell? a=some v):a.block<w.heap.size∧a.spot=none:=by
 unfold World.cell? at h
 split at h
 ·rename_i c ty bQ af
  refine⟨lU af,?_⟩
  split at h
  ·simp at h
  ·rename_i J
   cases zP:a.spot with
   | none=>rfl
   | some n=>simp[zP]at J
 ·simp at h
theorem PL{w:World}{a:Addr}{n:Nat}{l:List Value}(h:w.cells? 0 a n=some l):l.length=n∧∀(j:Nat) v,l[j]? = some v→w.cell? (a.add j)=some v:=by
 unfold World.cells? at h
 simp only[uv,cQ]at h
 have key:∀(xs:List Nat) (l:List Value),xs.mapM (fun i=>w.cell? (a.add i))=some l→l.length=xs.length∧∀(j:Nat) v i,l[j]? = some v→xs[j]? = some i→w.cell? (a.add i)=some v:=by
  intro xs
  induction xs with
  | nil=>intro l h;simp at h;subst h;exact⟨rfl,by simp⟩
  | cons x xs au =>
   intro l h
   rw[Dd]at h
   cases aI:w.cell? (a.add x)with
   | none=>simp[aI]at h
   | some b =>
    cases ao:xs.mapM (fun i=>w.cell? (a.add i))with
    | none=>simp[aI,ao]at h
    | some gB =>
     simp[aI,ao]at h
     subst h
     obtain⟨ad,ag⟩:=au gB ao
     refine⟨by simp[ad],fun j v i az hi=>?_⟩
     cases j with
     | zero=>simp at az hi;subst az;subst hi;exact aI
     | succ j=>exact ag j v i (by simpa using az) (by simpa using hi)
 obtain⟨ad,ag⟩:=key _ _ h
 have ao:l.length=n:=by simpa using ad
 exact⟨ao,fun j v az=>ag j v j az (by
  have:j<n:=by rw[← ao];exact(cD.1 az).1
  simp[this])⟩
theorem W9{a:Addr}(h:a.spot=none)(n:Nat):a.add n=⟨a.block,a.off+n,none⟩:=by
 unfold Addr.add
 split
 ·subst n;cases a;simp at h;subst h;rfl
 ·rfl
def yc(w:World):c8:=fun b=>b<w.heap.size
def x7:TypeDesc→Bool
 | .struct _=>true
 | .array _ _=>true
 | _=>false
theorem Xa{t:TypeId}{u:TypeDesc}(h:P.underlying t=some u):nJ P t=some (x7 u):=by
 unfold nJ
 rw[h]
 cases u<;>rfl
theorem UW{α β:Type}{f:α→Option β}:∀ {l:List α} {r:List β},l.mapM f=some r→∀(j:Nat) a,l[j]? = some a→∃ b,r[j]? = some b∧f a=some b:=by
 intro l
 induction l with
 | nil=>intro r _ j a h;simp at h
 | cons x l au =>
  intro r h j a ae
  rw[Dd]at h
  cases aI:f x with
  | none=>simp[aI]at h
  | some b =>
   cases ao:l.mapM f with
   | none=>simp[aI,ao]at h
   | some gB =>
    simp[aI,ao]at h
    subst h
    cases j with
    | zero=>simp at ae;subst ae;exact⟨b,rfl,aI⟩
    | succ j=>exact au ao j a (by simpa using ae)
theorem afq{H:Type}{e:TypeId}{n:Nat}{d:DataW H}:∀ {ds:List (DataW H)},d∈ds→n∈d.weights P e→n∈DataW.weightsAll P e ds:=by
 intro ds
 induction ds with
 | nil=>intro h;cases h
 | cons x ds au =>
  intro h aw
  simp only[DataW.weightsAll,hp]
  cases h with
  | head=>exact .inl aw
  | tail _ h=>exact .inr (au h aw)
theorem awW{H:Type}{enc:TypeId × Value→H}{w:World}{sp:Nat→Bool}{held:Bool}:∀(d:Nat) {t:TypeId} {fuel:Nat} {cs:List Value} {z:DataW H × List MemPlace},rH P d t=true→DataW.trod enc P w 0 sp held fuel t cs=some z→(∀ n∈z.1.weights P t,n≤reachBytes) →
  ∃ aq,nz P d t aq∧l3 (yc w) w cs aq:=by
 intro d
 induction d with
 | zero=>intro t fuel cs z av;simp[rH]at av
 | succ d au =>
  intro t fuel cs z av al bl
  cases fuel with
  | zero=>simp[DataW.trod]at al
  | succ fuel =>
   simp only[rH]at av
   have tt:nz P (d+1) t=fun cs=>match P.underlying t with
    | some .bool=>∃ b,cs=[.aA (.bool b)]
    | some (.int k)=>∃ n,cs=[.aA (.int k n)]∧(Lit.int k n).wf=true
    | some .string=>∃ s,cs=[.aA (.string s)]∧s.size≤maxLen
    | some (.slice e)=>∃ xs,cs=[.aP false (P.cellsOf e) xs]∧(xs.length≤maxLen∧xs.length*P.bytesOf e≤reachBytes)∧∀ x∈xs,ti P (nz P d) e x
    | some (.struct fE)=>cs.length=P.cellsOf t∧∀ f∈fE.toList,nz P d f.type ((cs.drop f.offset).take (P.cellsOf f.type))
    | some (.array n e)=>cs.length=P.cellsOf t∧∀ i,i<n→nz P d e ((cs.drop (i*P.cellsOf e)).take (P.cellsOf e))
    | _=>False:=rfl
   rw[tt]
   clear tt
   cases hu:P.underlying t with
   | none=>rw[hu]at av;simp at av
   | some u =>
    rw[hu]at av
    cases u with
    | bool =>
     simp only[DataW.trod,hu]at al ⊢
     match cs,al with
     | [.bool b],al=>exact⟨_,⟨b,rfl⟩,l3.one (.aA _ rfl) rfl⟩
    | int k =>
     simp only[DataW.trod,hu]at al ⊢
     match cs,al with
     | [.int bg n],al =>
      simp only at al
      split at al
      ·rename_i af
       obtain⟨rfl,hw⟩:=af
       exact⟨_,⟨n,rfl,hw⟩,l3.one (.aA _ rfl) rfl⟩
      ·simp at al
    | string =>
     simp only[DataW.trod,hu]at al ⊢
     match cs,al with
     | [.string s],al =>
      simp only at al
      split at al
      ·rename_i af
       exact⟨_,⟨s,rfl,af⟩,l3.one (.aA _ rfl) rfl⟩
      ·simp at al
    | slice e =>
     simp only[DataW.trod,hu]at al ⊢
     simp only[fe,ho]at av
     match cs,al with
     | [.slice none 0 0],al=>exact⟨_,⟨[],rfl,⟨by simp,by simp⟩,by simp⟩,l3.one (.rF _ _ _ _ (by simp)) rfl⟩
     | [.slice (some a) len cap],al =>
      simp only at al
      split at al
      ·rename_i af
       cases hm:(List.range len).mapM (fun i=>(w.cells? 0 (a.add (i*P.cellsOf e)) (P.cellsOf e)).bind (DataW.trod enc P w 0 sp held fuel e))with
       | none=>simp[hm]at al
       | some elems =>
        obtain⟨gk,_⟩:=mapM_some hm
        have hlen:len≤maxLen:=kP af.2.1 af.2.2
        have LS:∃ rest,z.1=.slice (elems.map (·.1)) rest:=by
         rw[hm]at al
         simp only[AP,mH]at al
         obtain⟨rest,_,rfl⟩:=al
         exact⟨_,rfl⟩
        obtain⟨rest,LS⟩:=LS
        have amQ:len*P.bytesOf e≤reachBytes:=by
         have:=bl ((((elems.map (·.1)).length+rest.length)*P.bytesOf e)) (by rw[LS];simp[DataW.weights,hu])
         refine kP (jB _ ?_) this
         rw[bJ,gk,Pc];omega
        have jl:∀ i,i<len→∃ b,(w.cells? 0 (a.add (i*P.cellsOf e)) (P.cellsOf e)).bind (DataW.trod enc P w 0 sp held fuel e)=some b∧∀ n∈b.1.weights P e,n≤reachBytes:=by
         intro i hi
         obtain⟨b,ab,zA⟩:=UW hm i i (by simp[hi])
         refine⟨b,zA,fun n aw=>bl n ?_⟩
         rw[LS]
         simp only[DataW.weights,hu,iu,hp]
         exact .inr (.inl (afq (JX (gp ab)) aw))
        by_cases bo:len=0
        ·subst bo
         exact⟨_,⟨[],rfl,⟨by simp,by simp⟩,by simp⟩,l3.one (.rF _ _ _ _ (by simp)) rfl⟩
        ·have hex:∀ i,∃ x:T,i<len→ti P (nz P d) e x∧∃ vs,l3 (yc w) w vs x.cells∧w.cells? 0 (a.add (i*P.cellsOf e)) (P.cellsOf e)=some vs:=by
          intro i
          by_cases hi:i<len
          ·obtain⟨b,ab,amR⟩:=jl i hi
           cases az:w.cells? 0 (a.add (i*P.cellsOf e)) (P.cellsOf e)with
           | none=>simp[az]at ab
           | some vs =>
            simp[az]at ab
            obtain⟨aq,ad,ag⟩:=au av.2 ab amR
            have BJ:=av.2
            cases d with
            | zero=>simp[rH]at BJ
            | succ d =>
             simp only[rH]at BJ
             cases Sf:P.underlying e with
             | none=>rw[Sf]at BJ;simp at BJ
             | some afe =>
              have ae:=Xa Sf
              cases tx:x7 afe with
              | true =>
               rw[tx]at ae
               exact⟨.agg aq,fun _=>⟨by unfold ti;rw[ae];exact⟨aq,rfl,ad⟩,vs,ag,rfl⟩⟩
              | false =>
               rw[tx]at ae
               have D9:∃ x,aq=[x]∧T.cells x=[x]:=by
                simp only[nz,Sf]at ad
                cases afe with
                | bool=>obtain⟨b,rfl⟩:=ad;exact⟨_,rfl,rfl⟩
                | int k=>obtain⟨b,rfl,_⟩:=ad;exact⟨_,rfl,rfl⟩
                | string=>obtain⟨b,rfl,_⟩:=ad;exact⟨_,rfl,rfl⟩
                | slice aW=>obtain⟨b,rfl,_⟩:=ad;exact⟨_,rfl,rfl⟩
                | struct fE=>simp[x7]at tx
                | array n aW=>simp[x7]at tx
                | _=>exact ad.elim
               obtain⟨x,rfl,U⟩:=D9
               exact⟨x,fun _=>⟨by unfold ti;rw[ae];exact ad,vs,by rw[U];exact ag,rfl⟩⟩
          ·exact⟨.aA undef,fun h=>absurd h hi⟩
         obtain⟨g,ay⟩:=Classical.axiomOfChoice hex
         have an:=av.1
         have Sc:a.spot=none:=by
          obtain⟨_,vs,ag,aJ⟩:=ay 0 (by omega)
          obtain⟨bL,dC⟩:=PL aJ
          have:=dC 0 (vs[0]'(by omega)) (by simp)
          have e:(a.add (0*P.cellsOf e)).add 0=a:=by simp[Addr.add]
          rw[e]at this
          exact(XC this).2
         have lk:∀ i j,i<len→j<P.cellsOf e→∃ v x,w.cell? ⟨a.block,a.off+(i*P.cellsOf e+j),none⟩=some v∧(g i).cells[j]? = some x∧eO (yc w) w v x∧mv v=true:=by
          intro i j hi aU
          obtain⟨_,vs,ag,aJ⟩:=ay i hi
          obtain⟨bL,dC⟩:=PL aJ
          have anC:j<vs.length:=by omega
          have fQ:=dC j vs[j] (by simp)
          rw[W9 Sc,W9 rfl]at fQ
          have zE:j<(g i).cells.length:=by rw[← ag.1];exact anC
          have hP:=ag.2 j vs[j] (g i).cells[j] (by simp) (by simp)
          refine⟨vs[j],(g i).cells[j],?_,by simp,hP.1,hP.2⟩
          rw[← fQ]
          simp[uq]
         have aB:a.block<w.heap.size:=by
          obtain⟨v,x,ad,_⟩:=lk 0 0 (by omega) an
          exact(XC ad).1
         have eT:∀ i,i<len→(g i).cells.length=P.cellsOf e:=by
          intro i hi
          obtain⟨_,vs,ag,aJ⟩:=ay i hi
          rw[← ag.1]
          exact(PL aJ).1
         refine⟨_,⟨(List.range len).map g,rfl,⟨by simpa using hlen,by simpa using amQ⟩,fun x U=>?_⟩,l3.one ?_ rfl⟩
         ·simp only[nE,vv]at U
          obtain⟨i,hi,rfl⟩:=U
          exact(ay i hi).1
         ·obtain⟨Dh,Dj,aBA⟩:=a
          simp only at Sc lk aB
          subst Sc
          have jO:∀(i:Nat) x,((List.range len).map g)[i]? = some x→i<len∧x=g i:=by
           intro i x U
           rw[eE,mH]at U
           obtain⟨y,ar,rfl⟩:=U
           have hi:i<len:=by
            have:=(cD.1 ar).1
            simpa using this
           rw[List.getElem?_range hi]at ar
           cases ar
           exact⟨hi,rfl⟩
          refine .aP Dh Dj len cap false (P.cellsOf e) _ aB (by simp) af.2.1 (by simp) (fun i x U=>?_) (fun j=>(w.cell? ⟨Dh,Dj+j,none⟩).getD undef) (fun j aU=>?_) (fun i x j t U ax=>?_)
          ·obtain⟨hi,rfl⟩:=jO i x U
           exact eT i hi
          ·have jL:j / P.cellsOf e<len:=Nat.div_lt_of_lt_mul (by rw[s3];exact aU)
           have qg:j % P.cellsOf e<P.cellsOf e:=mF _ an
           obtain⟨v,x,ad,_,_,bL⟩:=lk _ _ jL qg
           have ts:j / P.cellsOf e*P.cellsOf e+j % P.cellsOf e=j:=Nat.div_add_mod' j (P.cellsOf e)
           rw[ts]at ad
           rw[ad]
           exact⟨rfl,bL⟩
          ·obtain⟨hi,rfl⟩:=jO i x U
           have aU:j<P.cellsOf e:=by rw[← eT i hi];exact(cD.1 ax).1
           obtain⟨v,y,ad,ag,aJ,_⟩:=lk i j hi aU
           rw[ax]at ag
           cases ag
           simp only[ad,na]
           exact aJ
      ·simp at al
    | struct fE =>
     simp only[DataW.trod,hu]at al ⊢
     simp only[fe,jY]at av
     split at al
     ·rename_i hlen
      cases hm:fE.toList.mapM (fun f=>DataW.trod enc P w 0 sp held fuel f.type ((cs.drop f.offset).take (P.cellsOf f.type)))with
      | none=>simp[hm]at al
      | some xs =>
       rw[hm]at al
       simp only[r5,Option.some.injEq]at al
       obtain⟨aq,ad,ag⟩:=alK (P:=P) (D:=yc w) (w:=w) (F:=nz P d) hlen fE.toList 0 av.1 (fun f aI=>by
        obtain⟨j,aU⟩:=w6.1 aI
        obtain⟨b,ab,zA⟩:=UW hm j f aU
        refine au (av.2 f aI) zA (fun n aw=>bl n ?_)
        rw[← al]
        simp only[DataW.weights,hu]
        exact DataW.weights_mem_each (j:=j) (by simp[aU]) (by simp[ab]) n aw)
       refine⟨aq,⟨by rw[← hlen,← ad.1];rfl,fun f aI=>by simpa using ag f aI⟩,ad⟩
     ·simp at al
    | array n e =>
     simp only[DataW.trod,hu]at al ⊢
     simp only[fe,AU]at av
     split at al
     ·rename_i hlen
      cases hm:(List.range n).mapM (fun i=>DataW.trod enc P w 0 sp held fuel e ((cs.drop (i*P.cellsOf e)).take (P.cellsOf e)))with
      | none=>simp[hm]at al
      | some xs =>
       rw[hm]at al
       simp only[r5,Option.some.injEq]at al
       obtain⟨aq,ad,ag⟩:=alL (D:=yc w) (w:=w) (k:=P.cellsOf e) (F:=nz P d e) (cs:=cs) n (by omega) (fun i hi=>by
        obtain⟨b,ab,zA⟩:=UW hm i i (by simp[hi])
        refine au av.2 zA (fun n aw=>bl n ?_)
        rw[← al]
        simp only[DataW.weights,hu]
        exact afq (JX (gp ab)) aw)
       have ie:cs.take (n*P.cellsOf e)=cs:=l8 (by omega)
       rw[ie]at ad
       exact⟨aq,⟨by rw[← hlen,← ad.1],ag⟩,ad⟩
     ·simp at al
    | _=>simp at av
theorem awX{H:Type}{enc:TypeId × Value→H}{w:World}{sp:Nat→Bool}{held:Bool}{d:Nat}{t:TypeId}{v:Value}{x:DataW H}{bO:List MemPlace}{base:Nat}(av:rH P d t=true)
  (ck:Value.okWide P w .any base t v) (al:DataW.Trod enc P w 0 sp held t v x bO) (bl:∀ n∈x.weights P t,n≤reachBytes):∃ y,ti P (nz P d) t y∧eO (yc w) w v y:=by
 obtain⟨fuel,al⟩:=al
 obtain⟨aq,ad,ag⟩:=awW d av al bl
 cases d with
 | zero=>simp[rH]at av
 | succ d =>
  cases hu:P.underlying t with
  | none=>simp only[rH,hu]at av;simp at av
  | some u =>
   have ae:=Xa hu
   cases tx:x7 u with
   | true =>
    rw[tx]at ae
    have amG:∃ cs,v=.agg cs:=by
     unfold Value.okWide at ck
     rw[hu]at ck
     cases u with
     | struct fE=>obtain⟨cs,h,_⟩:=ck;exact⟨cs,h⟩
     | array n e=>obtain⟨cs,h,_⟩:=ck;exact⟨cs,h⟩
     | _=>simp[x7]at tx
    obtain⟨cs,rfl⟩:=amG
    refine⟨.agg aq,by unfold ti;rw[ae];exact⟨aq,rfl,ad⟩,.agg cs aq (by have:=ag.1;simpa[Value.cells]using this) (fun i v x az U=>(ag.2 i v x (by simpa[Value.cells]using az) U).1)⟩
   | false =>
    rw[tx]at ae
    have D9:∃ y,aq=[y]:=by
     simp only[nz,hu]at ad
     cases u with
     | bool=>obtain⟨b,rfl⟩:=ad;exact⟨_,rfl⟩
     | int k=>obtain⟨b,rfl,_⟩:=ad;exact⟨_,rfl⟩
     | string=>obtain⟨b,rfl,_⟩:=ad;exact⟨_,rfl⟩
     | slice aW=>obtain⟨b,rfl,_⟩:=ad;exact⟨_,rfl⟩
     | struct fE=>simp[x7]at tx
     | array n aW=>simp[x7]at tx
     | _=>exact ad.elim
    obtain⟨y,rfl⟩:=D9
    refine⟨y,by unfold ti;rw[ae];exact ad,?_⟩
    have Lz:v.cells = #[v]:=by
     have dx:v.cells.size=1:=by have:=ag.1;simpa using this
     cases v with
     | agg cs =>
      exfalso
      simp only[Value.cells]at ag dx
      unfold Value.okWide at ck
      rw[hu]at ck
      cases u<;>simp[x7]at tx<;>simp[Cell.okWide,Cell.ok,hu]at ck
     | _=>rfl
    rw[Lz]at ag
    exact(ag.2 0 v y rfl rfl).1
theorem awV{H:Type}{enc:TypeId × Value→H}{w:World}{sp:Nat→Bool}{held:Bool}{d base:Nat}:∀ {aq:List TypeId} {vs:List Value} {ds:List (DataW H)} {bO:List MemPlace},(∀ t∈aq,rH P d t=true) →
  (∀(j:Nat) t v,aq[j]? = some t→vs[j]? = some v→Value.okWide P w .any base t v)→DataW.TrodAll enc P w 0 sp held aq vs ds bO→(∀ n∈DataW.weightsEach P aq ds,n≤reachBytes)→∃ xs,yS P d aq xs∧vs.length=xs.length∧∀(i:Nat) v x,vs[i]? = some v→xs[i]? = some x→eO (yc w) w v x:=by
 intro aq
 induction aq with
 | nil =>
  intro vs ds bO _ _ h _
  match vs,ds,h with
  | [],[],_=>exact⟨[],trivial,rfl,by simp⟩
 | cons t aq au =>
  intro vs ds bO av ck h bl
  match vs,ds,h with
  | v::vs,x::ds,h =>
   obtain⟨p,q,ad,ag,_⟩:=h
   simp only[DataW.weightsEach,hp]at bl
   obtain⟨y,aJ,bL⟩:=awX (av t (by simp)) (ck 0 t v rfl rfl) ad (fun n aw=>bl n (.inl aw))
   obtain⟨xs,dC,fQ,hP⟩:=au (fun u hu=>av u (by simp[hu])) (fun j u z hu bl=>ck (j+1) u z (by simpa using hu) (by simpa using bl)) ag (fun n aw=>bl n (.inr aw))
   refine⟨y::xs,⟨aJ,dC⟩,by simp[fQ],fun i u z hu bl=>?_⟩
   cases i with
   | zero=>simp at hu bl;subst hu;subst bl;exact bL
   | succ i=>exact hP i u z (by simpa using hu) (by simpa using bl)
theorem sU.sameAt{w w':World}(an:sU w w'){p:MemPlace}(av:p.block<w.heap.size):w.sameAt w' p:=by
 cases p with
 | cell b o=>exact World.cell?_of_block (w:=w) (an.dy b av)
 | map b=>exact an.dy b av
theorem azV{H:Type}{enc:TypeId × Value→H}{w w':World}(ao:laidOutB P=true)(an:sU w w'){sp:Nat→Bool}:∀ {aq:List TypeId} {vs:List Value} {ds:List (DataW H)} {bO:List MemPlace},
  (∀ t∈aq,P.readableRec t=true∧t<P.types.size)→DataW.TrodAll enc P w 0 (fun _=>true) true aq vs ds bO→(∀ p∈bO,p.block<w.heap.size)→(∀ p∈bO,sp p.block=true)→DataW.TrodAll enc P w' 0 sp true aq vs ds bO:=by
 intro aq
 induction aq with
 | nil=>intro vs ds bO _ h _ _;match vs,ds,h with|[],[],h=>exact h
 | cons t aq au =>
  intro vs ds bO av h aB zP
  match vs,ds,h with
  | v::vs,x::ds,h =>
   obtain⟨p,q,ad,ag,rfl⟩:=h
   refine⟨p,q,?_,au (fun u hu=>av u (by simp[hu])) ag (fun x U=>aB x (by simp[U])) (fun x U=>zP x (by simp[U])),rfl⟩
   exact WideElems.Trod_stays ao (av t (by simp)).1 (av t (by simp)).2 ad (fun x U=>an.sameAt (aB x (by simp[U]))) (fun x U=>zP x (by simp[U]))
theorem asP{H:Type}{enc:TypeId × Value→H}(cE:Sound P pol)(ao:laidOutB P=true){f:FuncId}{fn:Func}{s:ChangeSpec}{apart fresh handsOn again:Bool}{d:Nat}{tb:TypeId}
  (xV:fn.params.toList.all (fun t=>rH P d t && P.readableRec t && decide (t<P.types.size))=true) (gC:fn.resultTypes = #[tb]) (zQ:P.underlying tb=some .bool) (HK:s.vars=[])
  (Sa:∀ ds:List (DataW H),ds.length=fn.params.size→s.fn H ds={ results:=[.lit (.bool true)],args:=ds })
  (RD:∀ xs,yS P d fn.params.toList xs→a0 P pol f xs=some (.aA (.bool true)))
  {W:World} {base:Nat} {args:Array Value} {ds gs:List (DataW H)} {before:List MemPlace} (HJ:∀(j:Nat) t v,fn.params[j]? = some t→args[j]? = some v→Value.okWide P W .any base t v)
  (hQ:DataW.Whole enc P fn.params.toList s.vars apart W args.toList ds gs before) (Em:(DataW.weightsEach P (fn.params.toList++s.plain.varTypes P) (ds++gs)).all (· ≤ reachBytes)=true) (eT:hH pol (yc W) W) :
  Calls P f args W fun e C2=>∃ v,e=.returned v∧s.post enc P fn apart fresh handsOn again W args v C2:=by
 simp only[jY,fe,ho]at xV
 have Y2:=hQ
 obtain⟨p,q,hI,gr,rfl,fm,km⟩:=hQ
 rw[HK]at gr
 have aE:gs=[]∧q=[]:=by
  match gs,gr with
  | [],gr=>exact⟨rfl,gr⟩
 obtain⟨rfl,rfl⟩:=aE
 have hlen:ds.length=fn.params.size:=by
  have key:∀ {aq:List TypeId} {vs:List Value} {ds:List (DataW H)} {bO:List MemPlace},DataW.TrodAll enc P W 0 (fun _=>true) true aq vs ds bO→ds.length=aq.length:=by
   intro aq
   induction aq with
   | nil=>intro vs ds bO h;match vs,ds,h with|[],[],_=>rfl
   | cons t aq au=>intro vs ds bO h;match vs,ds,h with|v::vs,x::ds,h=>obtain⟨_,_,_,h,_⟩:=h;simp[au h]
  simpa using key hI
 have aoJ:∀ n∈DataW.weightsEach P fn.params.toList ds,n≤reachBytes:=by
  have key:∀(aq us:List TypeId) (ds:List (DataW H)),ds.length=aq.length→DataW.weightsEach P (aq++us) (ds++[])=DataW.weightsEach P aq ds:=by
   intro aq
   induction aq with
   | nil=>intro us ds h;(have:ds=[]:=F1 h);subst this;cases us<;>rfl
   | cons t aq au=>intro us ds h;match ds,h with|d::ds,h=>simp only[dS,DataW.weightsEach,au us ds (by simpa using h)]
  rw[key _ _ _ (by simpa using hlen),jY]at Em
  intro n aw
  simpa using Em n aw
 obtain⟨xs,ad,ag,aJ⟩:=awV (d:=d) (fun t ax=>(xV t ax).1.1) (fun j t v ax az=>HJ j t v (by simpa using ax) (by simpa using az)) hI aoJ
 have zP:=Sa ds hlen
 obtain⟨af,mW⟩:=A1 cE f xs _ (RD xs ad)
 have ey:=mW W (yc W) args (fun b ab=>ab) eT (by simpa using ag) (fun i v t az ax=>aJ i v t (by simpa using az) ax)
 refine(callsIn_wide.1 ey).mono fun e C2 he=>?_
 obtain⟨v,rfl,an,az⟩:=he
 obtain⟨rfl,_⟩:=az.fS
 have aB:∀ p'∈p++([]:List MemPlace),p'.block<W.heap.size:=fun x U=>Y2.lt x U
 have k0:∀ p'∈p,p'.block<W.heap.size:=fun x U=>aB x (by simp[U])
 have hold:∀ sp:Nat→Bool,(∀ x∈p,sp x.block=true)→DataW.TrodAll enc P C2 0 sp true fn.params.toList args.toList ds p:=fun sp J=>azV ao an (fun t ax=>⟨(xV t ax).1.2,(xV t ax).2⟩) hI k0 J
 have qp:∀(b:Nat) (sp:Nat→Bool) (aF:Bool),DataW.TrodAll enc P C2 b sp aF fn.resultTypes.toList ((Value.bool true).resultList fn.resultTypes.size) [.lit (.bool true)] []:=by
  intro b sp aF
  rw[gC]
  refine⟨[],[],⟨1,?_⟩,rfl,rfl⟩
  simp[DataW.trod,zQ,Value.cells]
 refine⟨_,rfl,ds,[],p++[],[],p,[],Y2,?_,?_,?_,?_,fun _=>?_⟩
 ·simp only[oj,zP];exact qp _ _ _
 ·simp only[oj,zP];exact hold _ (fun x U=>by simpa using k0 x U)
 ·simp only[oj,zP,HK];rfl
 ·refine⟨an.os,an.out,fun i hi=>?_⟩
  rw[an.dy i hi]
  split<;>simp_all
 ·refine⟨?_,.lit (.bool true)::ds,[],p,⟨p,[],?_,?_,by simp,?_,?_⟩,?_⟩
  ·exact ok_one gC rfl (by unfold Value.okWide;rw[zQ];simp[Cell.okWide,Cell.ok,zQ])
  ·have:=trodAll_append (hold (fun _=>true) (fun _ _=>rfl)) (qp 0 (fun _=>true) true)
   simpa using this
  ·rw[HK];rfl
  ·intro b off hf
   have:=fm b off (by simp[hf])
   rw[World.frozen?_of_block (w:=W) (an.dy b (k0 _ hf))]
   exact this
  ·intro ae
   have:=km ae
   simpa using this
  ·intro x U _
   simpa using U
theorem asO{H:Type}{enc:TypeId × Value→H}(cE:Sound P pol)(Zy:∀ g,pol.gK g=none)(ao:laidOutB P=true){f:FuncId}{fn:Func}{s:ChangeSpec}{apart fresh handsOn again:Bool}{d:Nat}{tb:TypeId}
  (xV:fn.params.toList.all (fun t=>rH P d t && P.readableRec t && decide (t<P.types.size))=true) (gC:fn.resultTypes = #[tb]) (zQ:P.underlying tb=some .bool) (HK:s.vars=[])
  (Sa:∀ ds:List (DataW H),ds.length=fn.params.size→s.fn H ds={ results:=[.lit (.bool true)],args:=ds })
  (RD:∀ xs,yS P d fn.params.toList xs→a0 P pol f xs=some (.aA (.bool true)))
  {W:World} {base:Nat} {args:Array Value} {ds gs:List (DataW H)} {before:List MemPlace} (HJ:∀(j:Nat) t v,fn.params[j]? = some t→args[j]? = some v→Value.okWide P W .any base t v)
  (hQ:DataW.Whole enc P fn.params.toList s.vars apart W args.toList ds gs before) (Em:(DataW.weightsEach P (fn.params.toList++s.plain.varTypes P) (ds++gs)).all (· ≤ reachBytes)=true) :
  Calls P f args W fun e C2=>∃ v,e=.returned v∧s.post enc P fn apart fresh handsOn again W args v C2:=
 asP cE ao xV gC zQ HK Sa RD HJ hQ Em ⟨fun g x U=>(by rw[Zy]at U;cases U),fun g aq U=>(by rw[Zy]at U;cases U)⟩
end Go.Abs
/- Small facts on the integers of the model. -/
namespace Go.Abs
open Go
theorem wrap_i64{x:Int}(ad:-9223372036854775808≤x)(ag:x<9223372036854775808):IntKind.i64.wrap x=x:=by
 have e:IntKind.i64.wrap x=if x % 18446744073709551616 ≥ 9223372036854775808 then x % 18446744073709551616-18446744073709551616 else x % 18446744073709551616:=by simp[IntKind.wrap,IntKind.bits,IntKind.signed]
 rw[e]
 split<;>omega
theorem wrap_u8{x:Int}:IntKind.u8.wrap x=x % 256:=by
 simp[IntKind.wrap,IntKind.bits,IntKind.signed]
theorem vl{n:Int}(h:(Lit.int .u8 n).wf=true):0≤n∧n<256:=by
 simp[Lit.wf,IntKind.min,IntKind.max,IntKind.bits,IntKind.signed]at h;omega
theorem aAR{n:Int}(h:(Lit.int .u16 n).wf=true):0≤n∧n<65536:=by
 simp[Lit.wf,IntKind.min,IntKind.max,IntKind.bits,IntKind.signed]at h;omega
end Go.Abs
/- The trees of a type,leaf by leaf. -/
namespace Go.Abs
open Go
variable{P:Program}
def yT(P:Program)(t:TypeId)(x:T):Prop:=∃ d,ti P (nz P d) t x
inductive ug where
 | bool
 | int (k:IntKind)
 | str
 | aP (size:Nat) (e:TypeId)
 deriving DecidableEq
def OF(P:Program):ug→T→Prop
 | .bool,x=>∃ b,x=.aA (.bool b)
 | .int k,x=>∃ n,x=.aA (.int k n)∧(Lit.int k n).wf=true
 | .str,x=>∃ s,x=.aA (.string s)∧s.size≤maxLen
 | .aP size e,x=>∃ xs,x=.aP false size xs∧(xs.length≤maxLen∧xs.length*P.bytesOf e≤reachBytes)∧∀ y∈xs,yT P e y
def sW(P:Program):List ug→List T→Prop
 | [],[]=>True
 | l::ls,c::cs=>OF P l c∧sW P ls cs
 | _,_=>False
theorem M6{cs:List T}(h:sW P [] cs):cs=[]:=by
 cases cs with
 | nil=>rfl
 | cons c cs=>exact h.elim
theorem oA{l:ug}{ls:List ug}{cs:List T}(h:sW P (l::ls) cs):∃ c r,cs=c::r∧OF P l c∧sW P ls r:=by
 cases cs with
 | nil=>exact h.elim
 | cons c cs=>exact⟨c,cs,rfl,h.1,h.2⟩
theorem ac0{a b:List ug}{xs ys:List T}(ad:sW P a xs)(ag:sW P b ys):sW P (a++b) (xs++ys):=by
 induction a generalizing xs with
 | nil=>rw[M6 ad];exact ag
 | cons l a au=>obtain⟨c,r,rfl,aJ,bL⟩:=oA ad;exact⟨aJ,au bL⟩
def wh(P:Program):Nat→TypeId→Option (List ug)
 | 0,_=>none
 | d+1,t =>
  match P.underlying t with
  | some .bool=>some [.bool]
  | some (.int k)=>some [.int k]
  | some .string=>some [.str]
  | some (.slice e)=>some [.aP (P.cellsOf e) e]
  | some (.struct fE)=>if rC P (P.cellsOf t) 0 fE.toList then(fE.toList.mapM fun f=>wh P d f.type).map List.flatten else none
  | some (.array n e)=>if P.cellsOf t=n*P.cellsOf e then(wh P d e).map fun l=>(List.replicate n l).flatten else none
  | _=>none
theorem mapM_flat{fE:List Field}{g:TypeId→Option (List ug)}{ls:List (List ug)}{total:Nat}:∀ {off:Nat} {cs:List T},rC P total off fE=true→off+cs.length=total→(fE.mapM fun f=>g f.type)=some ls →
  (∀ f∈fE,∀ l,g f.type=some l→sW P l ((cs.drop (f.offset-off)).take (P.cellsOf f.type)))→sW P ls.flatten cs:=by
 induction fE generalizing ls with
 | nil =>
  intro off cs h ao hm _
  simp[rC]at h
  simp at hm
  subst hm
  have:cs=[]:=F1 (by omega)
  subst this
  trivial
 | cons f fE au =>
  intro off cs h ao hm aI
  simp only[rC,fe,AU]at h
  obtain⟨e,al⟩:=h
  have hle:=acZ al
  rw[Dd]at hm
  cases ay:g f.type with
  | none=>simp[ay]at hm
  | some l =>
   cases uQ:fE.mapM (fun f=>g f.type)with
   | none=>simp[ay,uQ]at hm
   | some aCM =>
    simp[ay,uQ]at hm
    subst hm
    have ad:=aI f (by simp) l ay
    rw[e,nC,l6]at ad
    have Sb:cs=cs.take (P.cellsOf f.type)++cs.drop (P.cellsOf f.type):=(C6 _ _).symm
    rw[Sb,List.flatten_cons]
    refine ac0 ad (au al (by simp;omega) uQ fun hX zC gg j3=>?_)
    have:=aI hX (by simp[zC]) gg j3
    have nj:=acY al hX zC
    rw[Kd]
    have aW:P.cellsOf f.type+(hX.offset-(off+P.cellsOf f.type))=hX.offset-off:=by omega
    rw[aW]
    exact this
theorem Yp:∀(d hv:Nat) {t:TypeId} {ls:List ug} {cs:List T},wh P d t=some ls→nz P hv t cs→sW P ls cs:=by
 intro d
 induction d with
 | zero=>intro hv t ls cs h;simp[wh]at h
 | succ d au =>
  intro hv t ls cs h aI
  cases hv with
  | zero=>exact aI.elim
  | succ hv =>
   simp only[wh]at h
   simp only[nz]at aI
   cases hu:P.underlying t with
   | none=>simp[hu]at h
   | some u =>
    simp only[hu]at h aI
    cases u with
    | bool=>simp at h;subst h;obtain⟨b,rfl⟩:=aI;exact⟨⟨b,rfl⟩,trivial⟩
    | int k=>simp at h;subst h;obtain⟨n,rfl,hw⟩:=aI;exact⟨⟨n,rfl,hw⟩,trivial⟩
    | string=>simp at h;subst h;obtain⟨s,rfl,hw⟩:=aI;exact⟨⟨s,rfl,hw⟩,trivial⟩
    | slice e=>simp at h;subst h;obtain⟨xs,rfl,hw,U⟩:=aI;exact⟨⟨xs,rfl,hw,fun y ar=>⟨hv,U y ar⟩⟩,trivial⟩
    | struct fE =>
     simp only at h aI
     split at h
     ·rename_i ao
      cases hm:fE.toList.mapM (fun f=>wh P d f.type)with
      | none=>simp[hm]at h
      | some l =>
       simp[hm]at h
       subst h
       exact mapM_flat (g:=wh P d) (off:=0) ao (by omega) hm fun f Hn l j3=>au hv j3 (by simpa using aI.2 f Hn)
     ·simp at h
    | array n e =>
     simp only at h aI
     split at h
     ·rename_i ao
      cases hm:wh P d e with
      | none=>simp[hm]at h
      | some l =>
       simp[hm]at h
       subst h
       have key:∀(n:Nat) (cs:List T),cs.length=n*P.cellsOf e→(∀ i,i<n→nz P hv e ((cs.drop (i*P.cellsOf e)).take (P.cellsOf e)))→sW P (List.replicate n l).flatten cs:=by
        intro n
        induction n with
        | zero=>intro cs af _;have:cs=[]:=F1 (by omega)
                subst this;trivial
        | succ n ao5 =>
         intro cs af hw
         rw[oh]at af
         have Sb:cs=cs.take (P.cellsOf e)++cs.drop (P.cellsOf e):=(C6 _ _).symm
         rw[Sb,pB,List.flatten_cons]
         refine ac0 (au hv hm (by simpa using hw 0 (by omega))) (ao5 _ (by simp;omega) fun i hi=>?_)
         have:=hw (i+1) (by omega)
         rw[Kd]
         rw[oh,Gh]at this
         exact this
       exact key n cs (by omega) aI.2
     ·simp at h
    | _=>simp at h
theorem Qf{t:TypeId}{x:T}{ls:List ug}(ae:nJ P t=some true)(ao:wh P 20 t=some ls)(h:yT P t x):∃ cs,x=.agg cs∧sW P ls cs:=by
 obtain⟨d,h⟩:=h
 unfold ti at h
 rw[ae]at h
 obtain⟨cs,rfl,af⟩:=h
 exact⟨cs,rfl,Yp 20 d ao af⟩
theorem Qh{t:TypeId}{x:T}{l:ug}(ae:nJ P t=some false)(ao:wh P 20 t=some [l])(h:yT P t x):OF P l x:=by
 obtain⟨d,h⟩:=h
 unfold ti at h
 rw[ae]at h
 exact(Yp 20 d ao h).1
theorem akV{d:Nat}{xs:List T}(h:yS P d [] xs):xs=[]:=by
 cases xs with
 | nil=>rfl
 | cons x xs=>exact h.elim
theorem KW{d:Nat}{t:TypeId}{aq:List TypeId}{xs:List T}(h:yS P d (t::aq) xs):∃ x r,xs=x::r∧yT P t x∧yS P d aq r:=by
 cases xs with
 | nil=>exact h.elim
 | cons x xs=>exact⟨x,xs,rfl,⟨d,h.1⟩,h.2⟩
end Go.Abs
/- Code with all that hangs on the program's tables alone worked out ahead; what such code comes to,said of states; and that the evaluator comes to the same. -/
namespace Go.Abs
open Go
inductive Src where
 | v (t:Nat)
 | c (x:T)
 | d
 deriving Inhabited
abbrev aM:=Nat→ah
def Src.get(e:aM):Src→ah
 | .v t=>e t
 | .c x=>.t x
 | .d=>.dead
def eW(e:aM)(d:Option Tmp)(v:ah):aM :=
 match d with
 | some t=>fun s=>if s=t then v else e s
 | none=>e
inductive rV where
 | e9 (x:Src)
 | sh (size:Nat) (x:Src)
 | sL (c a b:Src)
 | de (k:Nat) (z:T)
 | I8 (size:Nat)
 | xf (m:Bool) (x:Src)
 | gF (cs:List T) (parts:List (Nat × Nat × Src))
 | gB (m:Bool) (size:Nat) (z:T) (len:Nat) (parts:List (Nat × Src))
 | fL (agg:Bool) (n:Nat) (a:Src)
 | st (n:Nat) (a x:Src)
 | qC (x:Src)
 | bin (op:BinOp) (hr:Bool) (x y:Src)
 | dp (x:Src)
 | adx (x:Src)
 | kD (k:IntKind) (x:Src)
 | fn (g:FuncId) (first captured:List Src)
 | aP (size:Nat) (x:Src) (lo hi gM:Option Src)
 | Bh (off:Nat) (x:Src)
 | fd (agg:Bool) (n off:Nat) (x:Src)
 | hz (size:Nat) (x i:Src)
 | zW (len size:Nat) (x i:Src)
 | z9 (agg:Bool) (n len size:Nat) (x i:Src)
 | ex (x:Src) (i:Nat)
 | hj (x:Src)
 | app (size bytes:Nat) (s x:Src)
 | U2 (gM:Bool) (x y:Src)
 | call (g:Src) (args:List Src)
 | raw (o:Oper)
 deriving Inhabited
def i64(n:Int):ah:=.t (.aA (.int .i64 n))
def kg(b:Bool):ah:=.t (.aA (.bool b))
def jD(op:BinOp)(hr:Bool):ah→ah→Option ah
 | .t (.aA (.int k a)),.t (.aA (.int bg b)) =>
  match op with
  | .shl=>if b<0 then none else some (.t (.aA (.int k (k.wrap (a*2 ^ (min b.toNat k.bits))))))
  | .shr=>if b<0 then none else some (.t (.aA (.int k (a.fdiv (2 ^ (min b.toNat k.bits))))))
  | .add=>if k=bg then some (.t (.aA (.int k (k.wrap (a+b)))))else none
  | .sub=>if k=bg then some (.t (.aA (.int k (k.wrap (a-b)))))else none
  | .mul=>if k=bg then some (.t (.aA (.int k (k.wrap (a*b)))))else none
  | .quo=>if k=bg then(if b=0 then none else some (.t (.aA (.int k (k.wrap (a.tdiv b))))))else none
  | .rem=>if k=bg then(if b=0 then none else some (.t (.aA (.int k (a.tmod b)))))else none
  | .and=>if k=bg then some (.t (.aA (.int k (k.wrap (BitVec.ofInt k.bits a &&& BitVec.ofInt k.bits b).toNat))))else none
  | .or=>if k=bg then some (.t (.aA (.int k (k.wrap (BitVec.ofInt k.bits a ||| BitVec.ofInt k.bits b).toNat))))else none
  | .xor=>if k=bg then some (.t (.aA (.int k (k.wrap (BitVec.ofInt k.bits a ^^^ BitVec.ofInt k.bits b).toNat))))else none
  | .andNot=>if k=bg then some (.t (.aA (.int k (k.wrap (BitVec.ofInt k.bits a &&& ~~~ BitVec.ofInt k.bits b).toNat))))else none
  | .eql=>if k=bg then some (kg (decide (a=b)))else none
  | .neq=>if k=bg then some (kg (decide (a≠b)))else none
  | .lss=>if k=bg then some (kg (decide (a<b)))else none
  | .leq=>if k=bg then some (kg (decide (a≤b)))else none
  | .gtr=>if k=bg then some (kg (decide (b<a)))else none
  | .geq=>if k=bg then some (kg (decide (b≤a)))else none
 | .t (.aA (.bool a)),.t (.aA (.bool b)) =>
  if hr then(match op with
   | .eql=>some (kg (a == b))
   | .neq=>some (kg (a != b))
   | _=>none)else none
 | .t (.aA (.string a)),.t (.aA (.string b)) =>
  match op with
  | .eql=>some (kg (a.toList == b.toList))
  | .neq=>some (kg !(a.toList == b.toList))
  | .add=>if 9223372036854775807<(a.size:Int)+(b.size:Int)then none else some (.t (.aA (.string (a++b))))
  | _=>none
 | _,_=>none
def ve(agg:Bool)(n:Nat)(cs:List ah):Option ah:=if agg then(if n≤cs.length then some (kJ (cs.take n))else none)else cs.head?
def CQ(agg:Bool)(n:Nat)(cs:List T):Option T:=if agg then(if n≤cs.length then some (.agg (cs.take n))else none)else cs.head?
def rp(agg:Bool)(n:Nat)(a:ah)(h:aj):Option ah :=
 match a with
 | .t (.ip cs)=>match CQ agg n cs with|some x=>some (.t x)|none=>none
 | .ref o e i off=>match rowAt h o e i with
  | some v=>ve agg n (v.cells.drop off)
  | none=>none
 | _=>none
def v8(size:Nat)(a v:ah)(h:aj):Option aj :=
 match a with
 | .ref o e i off =>
  match h[o]? with
  | some (.row k elems aG) =>
   if e=elems.length∧v.cells.length=size∧aG≤e then
    match elems[i]? with
    | some dy =>
     if off+size≤k∧0<size∧fX v.cells=true then some (h.set o (.row k (elems.set i (pack dy.isAgg (ku dy.cells off v.cells))) e))else none
    | none=>none
   else none
  | _=>none
 | _=>none
def LW(off:Nat):ah→Option ah
 | .t (.ip cs)=>some (.t (.ip (cs.drop off)))
 | .ref o e i k=>some (.ref o e i (k+off))
 | _=>none
def BT(size:Nat)(x:ah)(j:Nat):Option ah :=
 match x with
 | .t (.aP _ k xs)=>match xs[j]? with
  | some v=>if k=size then some (.t (.ip v.cells))else none
  | none=>none
 | .ms o e i len k _=>if j<len∧k=size then some (.ref o e (i+j) 0)else none
 | _=>none
def HW(len size:Nat)(x:ah)(k:Nat):Option ah :=
 if k<len then(match x with
  | .t (.ip cs)=>some (.t (.ip (cs.drop (k*size))))
  | .ref o e i off=>some (.ref o e i (off+k*size))
  | _=>none)else none
def uI(cells:List ah):List (Nat × Nat × ah)→Option (List ah)
 | []=>some cells
 | (off,size,v)::rest=>if v.cells.length=size∧0<size∧off+size≤cells.length then uI (ku cells off v.cells) rest else none
def kp(size:Nat)(x:ah)(lo hi gM:Option ah):Option ah :=
 match x with
 | .t (.aP clip k xs) =>
  match hM 0 lo,hM xs.length hi with
  | some l,some u =>
   if l≤u∧u≤xs.length∧k=size then
    match gM with
    | none=>some (.t (.aP (clip && decide (u=xs.length)) k ((xs.take u).drop l)))
    | some m=>match asNat m with
     | some m=>if m=u∧hi.isSome=true then some (.t (.aP true k ((xs.take u).drop l)))else none
     | none=>none
   else none
  | _,_=>none
 | .t (.aA (.slice none 0 0)) =>
  match hM 0 lo,hM 0 hi,hM 0 gM with
  | some 0,some 0,some 0=>if gM.isSome=true∧hi.isSome=false then none else some x
  | _,_,_=>none
 | .ms o e i len k clip =>
  match hM 0 lo,hM len hi with
  | some l,some u =>
   if l≤u∧u≤len∧k=size then
    match gM with
    | none=>if clip=false∨u=len∨e≤i+len then some (.ms o e (i+l) (u-l) k (clip && decide (u=len)))else none
    | some m=>match asNat m with
     | some m=>if m=u∧hi.isSome=true then some (.ms o e (i+l) (u-l) k true)else none
     | none=>none
   else none
  | _,_=>none
 | _=>none
def En(size bytes:Nat)(s x:ah)(h:aj):Option (ah × aj) :=
 match gU h size x with
 | some xs =>
  match s with
  | .t (.aA (.slice none 0 0)) =>
   match xs with
   | []=>some (s,h)
   | x::xs=>if(xs.length+1)*bytes≤eQ then some (.ms h.length (xs.length+1) 0 (xs.length+1) size false,h++[.row size (x::xs) 0])else none
  | .t (.aP true k ys) =>
   match xs with
   | []=>some (s,h)
   | x::xs=>if(ys.length+(xs.length+1))*bytes≤eQ∧(k=size∨ys=[])then
     some (.ms h.length (ys.length+(xs.length+1)) 0 (ys.length+(xs.length+1)) size false,h++[.row size (ys.map .t++(x::xs)) 0])else none
  | .ms o e i len k clip =>
   match xs with
   | []=>some (s,h)
   | x::xs =>
    match h[o]? with
    | some (.row aO elems aG) =>
     if(len+(xs.length+1))*bytes≤eQ∧k=size∧aO=size∧aG≤e∧i+len≤e∧e≤elems.length then
      if clip then
       some (.ms h.length (len+(xs.length+1)) 0 (len+(xs.length+1)) size false,h++[.row size ((elems.drop i).take len++(x::xs)) 0])
      else if i=0∧len=e∧e=elems.length then
       some (.ms o (e+(xs.length+1)) 0 (len+(xs.length+1)) size false,h.set o (.row size (elems++(x::xs)) aG))
      else if i=0∧len+(xs.length+1)≤e∧e=elems.length then
       some (.ms o e 0 (len+(xs.length+1)) size false,h.set o (.row size (elems.take len++(x::xs)++elems.drop (len+(xs.length+1))) e))
      else none
     else none
    | _=>none
  | _=>none
 | none=>none
def ly(e:aM):List Src→List ah
 | []=>[]
 | x::r=>x.get e::ly e r
def Ai(e:aM):List (Nat × Src)→List (Nat × ah)
 | []=>[]
 | (i,x)::r=>(i,x.get e)::Ai e r
def tQ(e:aM):List (Nat × Nat × Src)→List (Nat × Nat × ah)
 | []=>[]
 | (i,n,x)::r=>(i,n,x.get e)::tQ e r
def yl(e:aM):Option Src→Option ah
 | none=>none
 | some x=>some (x.get e)
def fB(h:aj):Option ah→Option g4
 | some v=>some (.val v h)
 | none=>none
def q6:Option aj→Option g4
 | some h=>some (.skip h)
 | none=>none
def Og:Option (ah × aj)→Option g4
 | some (v,h)=>some (.val v h)
 | none=>none
def eb(pol:c4):Operand→Src
 | .tmp t=>.v t
 | .const v=>if iL v then .c (fb v)else .d
 | .global g=>match pol.gK g with|some x=>.c x|none=>.d
 | .func f=>.c (.fn (.func f) [] [])
def zV(c a b:ah):Option ah :=
 match c with
 | .t (.aA (.bool c))=>match a,b with
  | .t (.aA (.bool x)),.t (.aA (.bool y))=>some (kg (if c then x else y))
  | x,y=>some (if c then x else y)
 | _=>none
def BS(m:Bool)(x:ah)(h:aj):Option g4 :=
 match m,x with
 | false,.t y=>if fX (ah.t y).cells then some (.val (.t (.ip y.cells)) h)else none
 | _,y=>if fX y.cells && !y.cells.isEmpty then some (.val (.ref h.length 1 0 0) (h++[.row y.cells.length [y] 0]))else none
def LX:ah→Option ah
 | .t (.aA (.bool b))=>some (kg !b)
 | _=>none
def aap:ah→Option ah
 | .t (.aA (.int k n))=>some (.t (.aA (.int k (k.wrap (0-n)))))
 | _=>none
def LV(k:IntKind):ah→Option ah
 | .t (.aA (.int _ n))=>some (.t (.aA (.int k (k.wrap n))))
 | _=>none
def HU(g:FuncId)(a b:List ah):ah :=
 match e6 a,e6 b with
 | some a,some b=>.t (.fn (.func g) a b)
 | _,_=>.fn (.func g) a b
def HT(x:ah)(i:Nat):Option ah :=
 match x with
 | .t (.ch vs)=>match vs[i]? with|some y=>some (.t y)|none=>none
 | .ch vs=>vs[i]?
 | _=>none
def zU(x:ah):Option ah :=
 match lenOf x with
 | some n=>some (i64 n)
 | none=>none
def Sq(gM:Bool):ah→ah→Option ah
 | .t (.aA (.int k a)),.t (.aA (.int _ b))=>some (.t (.aA (.int k (if gM then(if a<b then b else a)else(if b<a then b else a)))))
 | _,_=>none
def aao(agg:Bool)(n off:Nat)(x:ah):Option ah:=if x.isAgg then ve agg n (x.cells.drop off)else none
def HX:ah→Option ah
 | .t (.ip cs)=>some (.t (.ip cs))
 | .t (.fn (.func g) a b)=>some (.t (.fn (.func g) a b))
 | .ref o e i k=>some (.ref o e i k)
 | .fn (.func g) a b=>some (.fn (.func g) a b)
 | .bF o=>some (.bF o)
 | _=>none
def HV(size:Nat)(x:ah)(h:aj):g4 :=
 match x with
 | .t (.aA (.slice none 0 0))=>.val (.ms h.length 0 0 0 size false) (h++[.row size [] 0])
 | y=>.val y h
def HS(m:Bool)(size:Nat)(z:T)(len:Nat)(parts:List (Nat × ah))(h:aj):Option g4 :=
 match se size (List.replicate len (.t z)) parts with
 | some elems=>match m,e6 elems with
  | false,some aq=>some (.val (.t (.aP true size aq)) h)
  | _,_=>some (.val (.ms h.length len 0 len size true) (h++[.row size elems 0]))
 | none=>none
def zT(cs:List T)(parts:List (Nat × Nat × ah)):Option ah :=
 match uI (cs.map .t) parts with
 | some cs=>some (kJ cs)
 | none=>none
def cc(P:Program)(pol:c4)(f:FuncId)(e:aM)(h:aj):rV→Option g4
 | .e9 x=>some (.val (x.get e) h)
 | .sh size x=>some (HV size (x.get e) h)
 | .sL c a b=>fB h (zV (c.get e) (a.get e) (b.get e))
 | .de k z=>some (.val (.ref h.length 1 0 0) (h++[.row k [.t z] 0]))
 | .I8 size=>some (.val (.ref (h.length+1) 1 0 0) (h++[.row size [] 0,.row 1 [.ms h.length 0 0 0 size false] 0]))
 | .xf m x=>BS m (x.get e) h
 | .gF cs parts=>fB h (zT cs (tQ e parts))
 | .gB m size z len parts=>HS m size z len (Ai e parts) h
 | .fL agg n a=>fB h (rp agg n (a.get e) h)
 | .st n a x=>q6 (v8 n (a.get e) (x.get e) h)
 | .qC x=>fB h (HX (x.get e))
 | .bin op hr x y=>fB h (jD op hr (x.get e) (y.get e))
 | .dp x=>fB h (LX (x.get e))
 | .adx x=>fB h (aap (x.get e))
 | .kD k x=>fB h (LV k (x.get e))
 | .fn g a b=>some (.val (HU g (ly e a) (ly e b)) h)
 | .aP size x lo hi gM=>fB h (kp size (x.get e) (yl e lo) (yl e hi) (yl e gM))
 | .Bh off x=>fB h (LW off (x.get e))
 | .fd agg n off x=>fB h (aao agg n off (x.get e))
 | .hz size x i=>match asNat (i.get e)with
  | some j=>fB h (BT size (x.get e) j)
  | none=>none
 | .zW len size x i=>match asNat (i.get e)with
  | some j=>fB h (HW len size (x.get e) j)
  | none=>none
 | .z9 agg n len size x i=>match asNat (i.get e)with
  | some k=>if(x.get e).isAgg then(if k<len then fB h (ve agg n ((x.get e).cells.drop (k*size)))else none)else none
  | none=>none
 | .ex x i=>fB h (HT (x.get e) i)
 | .hj x=>fB h (zU (x.get e))
 | .app size bytes s x=>Og (En size bytes (s.get e) (x.get e) h)
 | .U2 gM x y=>fB h (Sq gM (x.get e) (y.get e))
 | .call g args=>nH (g.get e) (ly e args)
 | .raw o=>bj P pol f (fun x=>(eb pol x).get e) h o
inductive yY where
 | eu (l:List Src)
 | oS (g:Src) (args:List Src)
 | any
 deriving Inhabited
structure da where
 dst:Option Tmp
 g:Option (Tmp × Bool):=none
 Qs:Option (List Src):=none
 ew:yY:=.eu []
 op:rV
 deriving Inhabited
inductive C where
 | fM
 | ops (l:List da)
 | eV (fj:List (Nat × Nat)) (l:List da)
 | gh (l:List da)
 | seq (a b:C)
 | cond (c:Src) (a b:C)
 | block (id:Nat) (c:C)
 | loop (live:Option (List Tmp)) (c:C)
 | Ce (live:Option (List Tmp)) (c:C)
 | exit (id:Nat)
 | ret
 | wG (n:Nat) (live:Option (List Tmp)) (g:Src) (params:List Tmp) (assign body:Code)
 | bad
 deriving Inhabited
section
variable(P:Program)(pol:c4)(f:FuncId)
def Ds(bO:List (Nat × Nat)):List (Nat × Operand)→Option (List (Nat × Nat × Src))
 | []=>some []
 | (i,x)::r=>match bO[i]?,Ds bO r with
  | some (off,n),some l=>some ((off,n,eb pol x)::l)
  | _,_=>none
def Gz(size:Nat):List (Nat × Operand)→List (Nat × Nat × Src)
 | []=>[]
 | (i,x)::r=>(i*size,size,eb pol x)::Gz size r
def Kv:List (Nat × Operand)→List (Nat × Src)
 | []=>[]
 | (i,x)::r=>(i,eb pol x)::Kv r
def kh(o:Oper):rV :=
 let d:=o.dst.getD 0
 match o.op with
 | .move x=>.e9 (eb pol x)
 | .assign x=>if pol.grow f d then(match dB P o.type with
   | some (.slice elem)=>match eM P elem with
    | some size=>.sh size (eb pol x)
    | none=>.raw o
   | _=>.raw o)else .e9 (eb pol x)
 | .pick c a b=>.sL (eb pol c) (eb pol a) (eb pol b)
 | .alloc t=>if pol.grow f d then(match zeroOf P t,dB P t with
   | some (.aA (.slice none 0 0)),some (.slice elem)=>match eM P elem with
    | some size=>.I8 size
    | none=>.raw o
   | _,_=>.raw o)else(match zeroOf P t with
   | some z=>if fX (ah.t z).cells then .de (ah.t z).cells.length z else .raw o
   | none=>.raw o)
 | .box _ x=>if pol.grow f d then .raw o else .xf (pol.IL f d) (eb pol x)
 | .build t parts=>match zeroOf P t,dB P t with
  | some z,some (.struct fields)=>match yo P fields.toList with
   | some yn=>match Ds pol yn parts.toList with
    | some l=>.gF z.cells l
    | none=>.raw o
   | none=>.raw o
  | some z,some (.array _ elem)=>match eM P elem with
   | some size=>.gF z.cells (Gz pol size parts.toList)
   | none=>.raw o
  | _,_=>.raw o
 | .buildSlice t len parts=>match dB P t with
  | some (.slice elem)=>match eM P elem,zeroOf P elem with
   | some size,some z=>if(size=0∨16777216<len*size∨(ah.t z).cells.length≠size∨fX (ah.t z).cells=false)∨pol.grow f d=true then .raw o else .gB (pol.IL f d) size z len (Kv pol parts.toList)
   | _,_=>.raw o
  | _=>.raw o
 | .load t a=>match nJ P t,eM P t with
  | some b,some n=>.fL b n (eb pol a)
  | _,_=>.raw o
 | .store t a x=>if M1 P pol f t x || (EZ P pol f t a x).isSome then .raw o else match eM P t with
  | some n=>.st n (eb pol a) (eb pol x)
  | none=>.raw o
 | .nilCheck x=>.qC (eb pol x)
 | .binOp op t x y _=>match dB P t with
  | some .bool=>.bin op true (eb pol x) (eb pol y)
  | some (.int _)=>.bin op false (eb pol x) (eb pol y)
  | some .string=>.bin op false (eb pol x) (eb pol y)
  | _=>.raw o
 | .unOp op _ x=>match op with
  | .not=>.dp (eb pol x)
  | .neg=>.adx (eb pol x)
  | _=>.raw o
 | .convert s t x=>match dB P s,dB P t with
  | some (.int _),some (.int k)=>.kD k (eb pol x)
  | _,_=>.raw o
 | .makeFunc fn first captured=>match fn with
  | .func g=>.fn g (first.toList.map (eb pol)) (captured.toList.map (eb pol))
  | _=>.raw o
 | .slice t x lo hi gM=>match dB P t with
  | some (.slice elem)=>match eM P elem with
   | some size=>.aP size (eb pol x) (lo.map (eb pol)) (hi.map (eb pol)) (gM.map (eb pol))
   | none=>.raw o
  | _=>.raw o
 | .fieldAddr s x qc=>match ze P s qc with
  | some (_,off)=>.Bh off (eb pol x)
  | none=>.raw o
 | .field s x qc=>match ze P s qc with
  | some (t,off)=>match nJ P t,eM P t with
   | some b,some n=>.fd b n off (eb pol x)
   | _,_=>.raw o
  | none=>.raw o
 | .indexAddr t x ix=>match dB P t with
  | some (.slice elem)=>match eM P elem with
   | some size=>.hz size (eb pol x) (eb pol ix)
   | none=>.raw o
  | some (.array len elem)=>match eM P elem with
   | some size=>.zW len size (eb pol x) (eb pol ix)
   | none=>.raw o
  | _=>.raw o
 | .index t x ix=>match dB P t with
  | some (.array len elem)=>match eM P elem,nJ P elem with
   | some size,some b=>.z9 b size len size (eb pol x) (eb pol ix)
   | _,_=>.raw o
  | _=>.raw o
 | .extract x i=>.ex (eb pol x) i
 | .call c=>match c.callee with
  | .builtin b=>match b,c.args.toList,c.argTypes.toList with
   | .len,[x],[t]=>match dB P t with
    | some (.slice _)=>.hj (eb pol x)
    | _=>.raw o
   | .append,[s,x],[t,u]=>match dB P t,dB P u with
    | some (.slice elem),some (.slice _)=>match eM P elem,uD P elem with
     | some size,some bytes=>if size=0∨bytes=0∨zeroCells P elem≠some size then .raw o else .app size bytes (eb pol s) (eb pol x)
     | _,_=>.raw o
    | _,_=>.raw o
   | .min,[x,y],_=>.U2 false (eb pol x) (eb pol y)
   | .max,[x,y],_=>.U2 true (eb pol x) (eb pol y)
   | _,_,_=>.raw o
  | .value g=>.call (eb pol g) (c.args.toList.map (eb pol))
  | .invoke _ _=>.raw o
 | _=>.raw o
def uF(o:Oper):yY :=
 match o.op with
 | .load _ a=>.eu [eb pol a]
 | .store _ a _=>.eu [eb pol a]
 | .lookup _ m _ _=>.eu [eb pol m]
 | .mapUpdate _ m _ _=>.eu [eb pol m]
 | .insert _ m _ _=>.eu [eb pol m]
 | .call c=>match c.callee with
  | .builtin .append=>.eu (c.args.toList.map (eb pol))
  | .builtin .copy=>.eu (c.args.toList.map (eb pol))
  | .builtin .len=>.eu (c.args.toList.map (eb pol))
  | .builtin _=>.eu []
  | .value g=>.oS (eb pol g) (c.args.toList.map (eb pol))
  | .invoke _ _=>.any
 | _=>.eu []
def Dr(ops:List Oper):Option (Nat × Bool)→Option (Option (Tmp × Bool))
 | none=>some none
 | some (j,wT)=>match ops[j]? with
  | some o=>match o.dst with
   | some d=>some (some (d,wT))
   | none=>none
  | none=>none
def oX(n:Nat):Option Tmp→Bool
 | none=>true
 | some d=>decide (d<n)
def Gw(n:Nat)(ops:List Oper):List Oper→Option (List da)
 | []=>some []
 | o::r=>match Dr ops o.guard,Gw n ops r with
  | some g,some l=>if oX n o.dst then some ({ dst:=o.dst,g:=g,Qs:=if pol.dV f (o.dst.getD 0)then some (o.op.operands.toList.map (eb pol))else none,op:=kh P pol f o }::l)else none
  | _,_=>none
def Gx(n:Nat)(ops:List Oper):List Oper→Option (List da)
 | []=>some []
 | o::r=>match Dr ops o.guard,Gx n ops r with
  | some g,some l=>if oX n o.dst then some ({ dst:=o.dst,g:=g,ew:=uF pol o,op:=kh P pol f o }::l)else none
  | _,_=>none
def Gy(n:Nat)(ops:List Oper):List Oper→Option (List da)
 | []=>some []
 | o::r=>if Kw P n o r then some [{ dst:=o.dst,ew:=.any,op:=.e9 .d }]else match Dr ops o.guard,Gy n ops r with
  | some g,some l=>if oX n o.dst && !pol.dV f (o.dst.getD 0)then some ({ dst:=o.dst,g:=g,op:=kh P pol f o }::l)else none
  | _,_=>none
def eS(n:Nat):(dd:Nat)→Code→C
 | _,.skip=>.fM
 | _,.label _=>.fM
 | _,.region _ ops false=>if pol.lq f then(match Gy P pol f n ops.toList ops.toList with
  | some l=>.gh l
  | none=>.bad)else match Gw P pol f n ops.toList ops.toList with
  | some l=>.ops l
  | none=>.bad
 | _,.region id ops true=>match Gx P pol f n ops.toList ops.toList with
  | some l=>.eV (pol.fj f id) l
  | none=>.bad
 | dd,.seq a b=>.seq (eS n dd a) (eS n dd b)
 | dd,.cond c a b=>.cond (eb pol c) (eS n dd a) (eS n dd b)
 | _,.block id c=>.block id (eS n id c)
 | dd,.loop c=>if pol.M0 f dd then .Ce (pol.live f dd) (eS n dd c)else .loop (pol.live f dd) (eS n dd c)
 | dd,.scope c=>eS n dd c
 | _,.exit id=>.exit id
 | _,.ret=>.ret
 | dd,.rangeFunc g params assign body=>.wG n (pol.live f dd) (eb pol g) params.toList assign body
 | _,_=>.bad
end
def pM(e:aM):Option (Tmp × Bool)→Option Bool
 | none=>some true
 | some (t,wT)=>match e t with
  | .t (.aA (.bool b))=>some (b == wT)
  | .t (.aA _)=>some false
  | _=>none
def n4(pol:c4)(K:eZ)(I:eY)(f:FuncId)(d:Option Tmp)(h:aj):Option g4→Option (ah × aj)
 | some (.val v ai)=>some (v,ai)
 | some (.skip ai)=>some (.t (.aA undef),ai)
 | some (.call g args)=>iw pol K I f (d.getD 0) g args h
 | none=>none
def kV(h:aj)(p:Nat→Bool)(e:aM):aM:=fun t=>match dV h p (e t)with|some v=>v|none=>.dead
def KY(os:List Nat)(e:aM)(h:aj):Option (aM × aj) :=
 match tl h (fun o=>os.contains o) 0 h with
 | some ai=>some (kV h (fun o=>os.contains o) e,ai)
 | none=>none
def iq(n:Nat)(e:aM)(h:aj):Option (aM × aj) :=
 if h.length≤n then some (e,h)
 else match b5 (dk h (bV n)) (h.take n)with
  | some ai=>some (kV h (bV n) e,ai)
  | none=>none
def eR(live:Option (List Tmp))(e:aM):aM :=
 match live with
 | some aq=>fun t=>if aq.contains t then e t else .dead
 | none=>e
def p3(pol:c4)(f:FuncId)(d:Option Tmp)(e:aM):yY→Option (List Nat)
 | .eu l=>some ((ly e l).flatMap cl)
 | .oS g args=>match nH (g.get e) (ly e args)with
  | some (.call (.fn k) args)=>if pol.inl k f (d.getD 0)then none else(match e6 args with|some _=>some []|none=>if pol.fresh k f (d.getD 0)then some (jF args)else none)
  | _=>none
 | .any=>none
section
variable(P:Program)(pol:c4)(K:eZ)(I:eY)(n:Nat)(f:FuncId)
def wpOps:List da→(aM→aj→Prop)→aM→aj→Prop
 | [],Q,e,h=>Q e h
 | i::r,Q,e,h =>
  match pM e i.g with
  | some true=>match i.Qs with
   | none=>match n4 pol K I f i.dst h (cc P pol f e h i.op)with
    | some (v,ai)=>wpOps r Q (eW e i.dst v) ai
    | none=>False
   | some os=>match KY (reach h 20 (jF (ly e os))) e h with
    | some (aT,ad)=>match n4 pol K I f i.dst ad (cc P pol f aT ad i.op)with
     | some (v,ai)=>wpOps r Q (eW aT i.dst v) ai
     | none=>False
    | none=>False
  | some false=>wpOps r Q (eW e i.dst (.t (.aA undef))) h
  | none=>False
def Ah(pol:c4)(g:FuncId)(h:aj)(yX:aj→Prop)(Q:ah→aj→Prop)(v:ah)(ai:aj):Prop :=
 match v with
 | .dead=>yX ai
 | v=>match pr (pol.trim g) h (some (v,ai))with
  | some (v,ag)=>Q v ag
  | none=>False
def kv:List da→(cW→aM→aj→Prop)→aM→aj→Prop
 | [],Q,e,h=>Q .normal e h
 | i::r,Q,e,h =>
  match i.ew with
  | .any=>Q .panic (eW e i.dst .dead) h
  | _=>match pM e i.g with
   | some true=>match cc P pol f e h i.op with
    | some (.call (.fn g) args)=>if(pol.inl g f (i.dst.getD 0) && !u7 pol g args)=true then(match I (.fn g) args h with
      | some (v,ai)=>Ah pol g h (fun ai=>Q .panic e ai) (fun v ai=>kv r Q (eW e i.dst v) ai) v ai
      | none=>False)
     else(match n4 pol K I f i.dst h (some (.call (.fn g) args))with
      | some (v,ai)=>kv r Q (eW e i.dst v) ai
      | none=>False)
    | x=>match n4 pol K I f i.dst h x with
     | some (v,ai)=>kv r Q (eW e i.dst v) ai
     | none=>False
   | some false=>kv r Q (eW e i.dst (.t (.aA undef))) h
   | none=>False
def yO:List da→(aM→aj→List (Option (List Nat))→Prop)→aM→aj→Prop
 | [],Q,e,h=>Q e h []
 | i::r,Q,e,h =>
  match pM e i.g with
  | some true=>match n4 pol K I f i.dst h (cc P pol f e h i.op)with
   | some (v,ai)=>if ai.length<h.length then False else yO r (fun bs sj aq=>Q bs sj (sP (p3 pol f i.dst e i.ew) h ai::aq)) (eW e i.dst v) ai
   | none=>False
  | some false=>yO r (fun bs sj aq=>Q bs sj (some []::aq)) (eW e i.dst (.t (.aA undef))) h
  | none=>False
def gP(cF:Nat)(live:Option (List Tmp))(body:(cW→aM→aj→Prop)→aM→aj→Prop)(Q:cW→aM→aj→Prop):Nat→aM→aj→Prop
 | 0,_,_=>False
 | m+1,e,h=>body (fun x bs ai=>match x with
   | .normal=>match iq cF bs ai with
    | some (P2,sj)=>gP cF live body Q m P2 sj
    | none=>False
   | .exit id=>Q (.exit id) bs ai
   | .ret=>Q .ret bs ai
   | .panic=>Q .panic bs ai) (eR live e) h
def iO:C→(cW→aM→aj→Prop)→aM→aj→Prop
 | .fM,Q,e,h=>Q .normal e h
 | .ops l,Q,e,h=>wpOps P pol K I f l (fun e h=>Q .normal e h) e h
 | .gh l,Q,e,h=>kv P pol K I f l Q e h
 | .eV fj l,Q,e,h=>yO P pol K I f l (fun e h aq=>nO fj aq=true∧Q .normal e h) e h
 | .seq a b,Q,e,h=>iO a (fun x e h=>match x with
   | .normal=>iO b Q e h
   | .exit id=>Q (.exit id) e h
   | .ret=>Q .ret e h
   | .panic=>Q .panic e h) e h
 | .cond c a b,Q,e,h=>match c.get e with
  | .t (.aA (.bool t))=>if t then iO a Q e h else iO b Q e h
  | _=>False
 | .block id c,Q,e,h=>iO c (fun x e h=>match x with
   | .exit j=>if j=id then Q .normal e h else Q (.exit j) e h
   | .normal=>Q .normal e h
   | .ret=>Q .ret e h
   | .panic=>Q .panic e h) e h
 | .loop live c,Q,e,h=>gP h.length live (iO c) Q n e h
 | .Ce live c,Q,e,h=>gP (h.length+1000000) live (iO c) Q n e h
 | .exit id,Q,e,h=>Q (.exit id) e h
 | .ret,Q,e,h=>Q .ret e h
 | .wG m live g params assign body,Q,e,h=>match nH (g.get e) [.bF h.length]with
  | some (.call (.fn nS) args)=>match alive (I (.fn nS) args (h++[.loop f ((List.range m).map (eR live e)) params assign body false none]))with
   | some (_,ag)=>match Cf ag h.length,iq h.length e (ag.set h.length .gone)with
    | some none,some (bs,ai)=>Q .normal bs ai
    | some (some .ret),some (bs,ai)=>Q .ret bs ai
    | some (some (.exit id)),some (bs,ai)=>Q (.exit id) bs ai
    | _,_=>False
   | none=>False
  | _=>False
 | .bad,_,_,_=>False
end
structure FP where
 ntmps:Nat
 code:C
 results:List (Nat × Option (Bool × Nat))
def uE(P:Program):List ResultVar→Option (List (Nat × Option (Bool × Nat)))
 | []=>some []
 | .tmp t::r=>match uE P r with|some l=>some ((t,none)::l)|none=>none
 | .cell a t::r=>match nJ P t,eM P t,uE P r with
  | some b,some n,some l=>some ((a,some (b,n))::l)
  | _,_,_=>none
def lL(P:Program)(pol:c4)(f:FuncId):Option FP :=
 match P.funcs[f]? with
 | some fn=>match fn.body,uE P fn.results.toList with
  | some c,some rs=>some { ntmps:=fn.ntmps,code:=eS P pol f fn.ntmps 0 c,results:=rs }
  | _,_=>none
 | none=>none
def jR(e:aM)(h:aj):List (Nat × Option (Bool × Nat))→Option (List ah)
 | []=>some []
 | (t,none)::r=>match jR e h r with|some l=>some (e t::l)|none=>none
 | (t,some (b,n))::r=>match rp b n (e t) h,jR e h r with
  | some v,some l=>some (v::l)
  | _,_=>none
def pH(args:List ah):aM:=fun t=>args.getD t .dead
end Go.Abs
/- Code worked out ahead comes to what the evaluator comes to. -/
namespace Go.Abs
open Go
variable{P:Program}{pol:c4}{f:FuncId}{e:aM}{h:aj}
def gx(pol:c4)(e:aM):Operand→ah:=fun x=>(eb pol x).get e
theorem Jz(l:List Operand):ly e (l.map (eb pol))=l.map (gx pol e):=by
 induction l with
 | nil=>rfl
 | cons x l au=>simp only[gz,ly,au];rfl
theorem auJ(x:Option Operand):yl e (x.map (eb pol))=x.map (gx pol e):=by cases x<;>rfl
theorem au2(l:List (Nat × Operand)):Ai e (Kv pol l)=nx (gx pol e) l:=by
 induction l with
 | nil=>rfl
 | cons p l au=>obtain⟨i,x⟩:=p;simp only[Kv,Ai,nx,au];rfl
theorem oL(x:Option ah):fB h x=(match x with|some v=>some (g4.val v h)|none=>none):=by cases x<;>rfl
theorem YY(x:Option aj):q6 x=(match x with|some ai=>some (g4.skip ai)|none=>none):=by cases x<;>rfl
theorem aAC(x:Option (ah × aj)):Og x=(match x with|some (v,ai)=>some (g4.val v ai)|none=>none):=by rcases x with _|⟨_,_⟩<;>rfl
theorem fill_eq{bO:List (Nat × Nat)}:∀(l:List (Nat × Operand)) {gg:List (Nat × Nat × Src)} {cells:List ah},Ds pol bO l=some gg→fill (fun i=>bO[i]?) cells (nx (gx pol e) l)=uI cells (tQ e gg):=by
 intro l
 induction l with
 | nil=>intro gg cells h;simp[Ds]at h;subst h;rfl
 | cons p l au =>
  obtain⟨i,x⟩:=p
  intro gg cells h
  simp only[Ds]at h
  split at h
  ·rename_i off n gQ ad ag
   simp at h
   subst h
   simp only[nx,fill,tQ,uI,ad]
   rw[show gx pol e x=(eb pol x).get e from rfl]
   split
   ·exact au ag
   ·rfl
  ·simp at h
theorem akJ{size:Nat}:∀(l:List (Nat × Operand)) {cells:List ah},fill (fun i=>some (i*size,size)) cells (nx (gx pol e) l)=uI cells (tQ e (Gz pol size l)):=by
 intro l
 induction l with
 | nil=>intro cells;rfl
 | cons p l au =>
  obtain⟨i,x⟩:=p
  intro cells
  simp only[Gz,nx,fill,tQ,uI]
  rw[show gx pol e x=(eb pol x).get e from rfl]
  split
  ·exact au
  ·rfl
theorem XE(z:T):(ah.t z).cells=z.cells.map .t:=by cases z<;>rfl
theorem V3{t:TypeId}{b:Bool}{n:Nat}(ad:nJ P t=some b)(ag:eM P t=some n)(cs:List ah):tW P t cs=ve b n cs:=by
 cases b<;>simp[tW,ve,ad,ag]
theorem azl{t:TypeId}{b:Bool}{n:Nat}(ad:nJ P t=some b)(ag:eM P t=some n)(cs:List T):tX P t cs=CQ b n cs:=by
 cases b<;>simp[tX,CQ,ad,ag]
theorem W3{t:TypeId}{b:Bool}{n:Nat}(ad:nJ P t=some b)(ag:eM P t=some n)(a:ah):xa P t a h=rp b n a h:=by
 cases a with
 | t x=>cases x with
  | ip cs=>simp only[xa,rp,azl ad ag];rfl
  | _=>rfl
 | ref o e i off=>simp only[xa,rp,V3 ad ag];rfl
 | _=>rfl
theorem W8{t:TypeId}{n:Nat}(ag:eM P t=some n)(a v:ah):AZ P t a v h=v8 n a v h:=by
 unfold AZ v8
 rw[ag]
 cases a<;>rfl
theorem Vt{α:Type}{m:Sem Unit}(hm:m=pure ())(k:Sem α):(do m;k)=k:=by subst hm;rfl
theorem agp{t:TypeId}{op:BinOp}{hr:Bool}{ik il:Operand}{x y v:ah}(ab:hr=true→dB P t=some .bool)(hi:jD op hr x y=some v):s9 P op t ik il x y=some v:=by
 unfold jD at hi
 split at hi
 ·rename_i k a bg b
  have ay:eqGuard op t ik il (.int k a) (.int bg b)=pure ():=by
   unfold eqGuard
   split<;>rfl
  simp only[s9]
  rw[Vt ay]
  cases op with
  | shl =>
   simp only at hi
   split at hi
   ·simp at hi
   ·rename_i aB
    cases hi
    simp[binOp,Op.shift,aB,jQ,pure,iL,fb]
  | shr =>
   simp only at hi
   split at hi
   ·simp at hi
   ·rename_i aB
    cases hi
    simp[binOp,Op.shift,aB,jQ,pure,iL,fb]
  | quo =>
   simp only at hi
   split at hi
   ·rename_i an
    subst an
    split at hi
    ·simp at hi
    ·rename_i bl
     cases hi
     simp[binOp,Op.intDiv,bl,jQ,pure,iL,fb]
   ·simp at hi
  | rem =>
   simp only at hi
   split at hi
   ·rename_i an
    subst an
    split at hi
    ·simp at hi
    ·rename_i bl
     cases hi
     simp[binOp,Op.intDiv,bl,jQ,pure,iL,fb]
   ·simp at hi
  | _ =>
   simp only at hi
   split at hi
   ·rename_i an
    subst an
    cases hi
    simp[binOp,Op.intArith,Op.intBits,Op.intCmp,jQ,pure,iL,fb,kg]
    all_goals(try(first|rfl|(apply Db.2;simp)))
   ·simp at hi
 ·rename_i a b
  split at hi
  ·rename_i Q6
   have ax:=ab Q6
   have ay:eqGuard op t ik il (.bool a) (.bool b)=pure ():=by
    unfold eqGuard
    split<;>rfl
   simp only[s9]
   rw[Vt ay]
   have hu:P.underlying t=some .bool:=ax
   have he:jQ P (Op.equal t (.bool a) (.bool b))=some (a == b):=by
    have ag:Op.equal t (.bool a) (.bool b)=Op.equalIn (9999+1) t (.bool a) (.bool b):=rfl
    rw[ag,Op.equalIn]
    simp[underlying,program,hu,jQ,pure,bind,Sem.bind]
   have Y9:∀ {α β:Type} (m:Sem α) (k:α→β) (r:α),jQ P m=some r→jQ P (do pure (k (← m)))=some (k r):=by
    intro α β m k r hm
    have key:∀ m:Sem α,jQ P m=some r→jQ P (Sem.bind m fun a=>Sem.pure (k a))=some (k r):=by
     intro m
     induction m with
     | pure a=>intro hm;simp[jQ]at hm;subst hm;rfl
     | program g au=>intro hm;simp only[jQ]at hm;exact au P hm
     | _=>intro hm;simp[jQ]at hm
    exact key m hm
   split at hi
   ·cases hi
    have aJ:binOp .eql t (.bool a) (.bool b)=(do pure (.bool (← Op.equal t (.bool a) (.bool b)))):=rfl
    rw[aJ,Y9 _ _ _ he]
    rfl
   ·cases hi
    have aJ:binOp .neq t (.bool a) (.bool b)=(do pure (.bool (!(← Op.equal t (.bool a) (.bool b))))):=rfl
    rw[aJ,Y9 _ (fun x=>Value.bool !x) _ he]
    rfl
   ·simp at hi
  ·simp at hi
 ·rename_i a b
  have ay:eqGuard op t ik il (.string a) (.string b)=pure ():=by
   unfold eqGuard
   split<;>rfl
  simp only[s9]
  rw[Vt ay]
  split at hi
  ·cases hi
   simp[binOp,Op.stringOp,jQ,pure,iL,fb,kg]
  ·cases hi
   simp[binOp,Op.stringOp,jQ,pure,iL,fb,kg]
  ·split at hi
   ·simp at hi
   ·rename_i ab
    cases hi
    simp[binOp,Op.stringOp,jQ,pure,iL,fb,kg,ab]
  ·simp at hi
 ·simp at hi
theorem agD{t elem:TypeId}{size:Nat}(ad:dB P t=some (.slice elem))(ag:eM P elem=some size)(x:ah)(lo hi gM:Option ah):r8 P t x lo hi gM=kp size x lo hi gM:=by
 cases x with
 | t x=>cases x with
  | aP clip k xs=>simp only[r8,kp,ad,ag];cases hM 0 lo<;>cases hM xs.length hi<;>rfl
  | aA v=>cases v with
   | slice a len cap=>cases a with
    | none=>cases len with
     | zero=>cases cap with
      | zero=>simp only[r8,kp,ad,ag];rcases hM 0 lo with _|⟨_|_⟩<;>rcases hM 0 hi with _|⟨_|_⟩<;>rcases hM 0 gM with _|⟨_|_⟩<;>rfl
      | succ n=>simp[r8,kp,ad]
     | succ n=>simp[r8,kp,ad]
    | some a=>simp[r8,kp,ad]
   | _=>simp[r8,kp,ad]
  | _=>simp[r8,kp,ad]
 | ms o e i len k clip=>simp only[r8,kp,ad,ag];cases hM 0 lo<;>cases hM len hi<;>rfl
 | _=>simp[r8,kp,ad]
theorem agn{t elem:TypeId}{size bytes:Nat}(ad:dB P t=some (.slice elem))(ag:eM P elem=some size)(aJ:uD P elem=some bytes)(bL:¬ (size=0∨bytes=0∨zeroCells P elem≠some size))(s x:ah) :
  AX P t s x h=En size bytes s x h:=by
 unfold AX En
 simp only[ad,ag,aJ]
 cases gU h size x with
 | none=>rfl
 | some xs =>
  simp only[bL,et]
  rfl
theorem ajw{s t:TypeId}{ya k:IntKind}(ad:dB P s=some (.int ya))(ag:dB P t=some (.int k))(qy:IntKind)(n:Int):jQ P (convert s t (.int qy n))=some (.int k (k.wrap n)):=by
 have ad:P.underlying s=some (.int ya):=ad
 have ag:P.underlying t=some (.int k):=ag
 simp[convert,underlying,program,ad,ag,jQ,pure,bind,Sem.bind,Conv.intToInt]
theorem aoY{t:TypeId}{z:T}{fields:Array Field}{yn:List (Nat × Nat)}{parts:List (Nat × Operand)}{l:List (Nat × Nat × Src)}(ad:zeroOf P t=some z)(ag:dB P t=some (.struct fields))(aJ:yo P fields.toList=some yn)
  (bL:Ds pol yn parts=some l):AY P t (nx (gx pol e) parts)=zT z.cells (tQ e l):=by
 simp only[AY,ad,ag,aJ,zT]
 rw[fill_eq parts bL,XE]
 rfl
theorem aoX{t elem:TypeId}{z:T}{n size:Nat}{parts:List (Nat × Operand)}(ad:zeroOf P t=some z)(ag:dB P t=some (.array n elem))(aJ:eM P elem=some size) :
  AY P t (nx (gx pol e) parts)=zT z.cells (tQ e (Gz pol size parts)):=by
 simp only[AY,ad,ag,aJ,zT]
 rw[akJ parts,XE]
 rfl
theorem N2{o:Oper}{r:g4}(J:cc P pol f e h (kh P pol f o)=some r):bj P pol f (gx pol e) h o=some r:=by
 have raw:cc P pol f e h (.raw o)=some r→bj P pol f (gx pol e) h o=some r:=fun h=>h
 have my:∀ x,gx pol e x=(eb pol x).get e:=fun _=>rfl
 cases aN:o.op with
 | move x=>simp only[kh,aN,cc]at J;simp only[bj,aN];exact J
 | assign x =>
  simp only[kh,aN]at J
  split at J
  ·rename_i ay
   split at J
   ·rename_i elem ax
    split at J
    ·rename_i size dn
     simp only[cc,HV]at J
     simp only[bj,aN,ay,cQ,ax,dn]
     rw[my]
     split at J
     ·rename_i U
      rw[U]
      simp only[dn]
      exact J
     ·rename_i y ar
      split
      ·rename_i U _;exact absurd U ar
      ·exact J
    ·exact raw J
   ·exact raw J
  ·rename_i ay
   simp only[bj,aN,ay]
   exact J
 | pick c a b =>
  simp only[kh,aN,cc,zV]at J
  simp only[bj,aN,my]
  split at J
  ·rename_i c af
   simp only[af]
   split at J
   ·rename_i x y U ar
    simp only[U,ar]
    exact J
   ·rename_i aw
    split
    ·rename_i x y U ar;exact absurd ar (aw x y U)
    ·exact J
  ·simp[fB]at J
 | alloc t =>
  simp only[kh,aN]at J
  split at J
  ·rename_i ay
   split at J
   ·rename_i elem bl ax
    split at J
    ·rename_i size dn
     simp only[bj,aN,ay,cQ,bl,ax,dn]
     exact J
    ·exact raw J
   ·exact raw J
  ·rename_i ay
   split at J
   ·rename_i z bl
    split at J
    ·rename_i aS
     simp only[bj,aN,ay,bl,aS,cQ]
     exact J
    ·exact raw J
   ·exact raw J
 | box t x =>
  simp only[kh,aN]at J
  split at J
  ·exact raw J
  ·rename_i ay
   simp only[cc,BS]at J
   simp only[bj,aN,ay,my]
   exact J
 | build t parts =>
  simp only[kh,aN]at J
  split at J
  ·rename_i z fields bl ax
   split at J
   ·rename_i yn av
    split at J
    ·rename_i l ao
     simp only[cc,oL]at J
     simp only[bj,aN]
     rw[aoY bl ax av ao]
     exact J
    ·exact raw J
   ·exact raw J
  ·rename_i z n elem bl ax
   split at J
   ·rename_i size dn
    simp only[cc,oL]at J
    simp only[bj,aN]
    rw[aoX bl ax dn]
    exact J
   ·exact raw J
  ·exact raw J
 | buildSlice t len parts =>
  simp only[kh,aN]at J
  split at J
  ·rename_i elem ax
   split at J
   ·rename_i size z dn bl
    split at J
    ·exact raw J
    ·rename_i af
     simp only[cc,HS]at J
     have Q8:¬ (size=0∨16777216<len*size∨(ah.t z).cells.length≠size∨fX (ah.t z).cells=false):=fun k=>af (.inl k)
     have tw:pol.grow f (o.dst.getD 0)=false:=by
      cases aE:pol.grow f (o.dst.getD 0)with
      | false=>rfl
      | true=>exact absurd (.inr aE) af
     simp only[bj,aN,ax,dn,bl,Q8,et,tw,Bool.or_false,qT]
     rw[← au2]
     exact J
   ·exact raw J
  ·exact raw J
 | load t a =>
  simp only[kh,aN]at J
  split at J
  ·rename_i b n ab aw
   simp only[cc,oL]at J
   simp only[bj,aN,my]
   rw[W3 ab aw]
   exact J
  ·exact raw J
 | store t a x =>
  simp only[kh,aN]at J
  split at J
  ·exact raw J
  ·rename_i an
   split at J
   ·rename_i n aw
    simp only[cc,YY]at J
    rw[uy,not_or]at an
    have hR:EZ P pol f t a x=none:=by cases aE:EZ P pol f t a x with|none=>rfl|some s=>rw[aE]at an;exact absurd rfl an.2
    simp only[bj,aN,my,IT,hR]
    rw[a2 an.1,W8 aw]
    exact J
   ·exact raw J
 | nilCheck x =>
  simp only[kh,aN,cc,oL]at J
  simp only[bj,aN,my]
  unfold HX at J
  split at J
  ·rename_i v az
   split at az<;>rename_i U<;>try(simp at az;done)
   all_goals(rw[U];cases az;exact J)
  ·simp at J
 | binOp op t x y cA =>
  have fin:∀ hr,(hr=true→dB P t=some .bool)→cc P pol f e h (.bin op hr (eb pol x) (eb pol y))=some r→bj P pol f (gx pol e) h o=some r:=by
   intro hr ab J
   simp only[cc,oL]at J
   split at J
   ·rename_i v az
    cases J
    simp only[bj,aN,my]
    rw[agp ab az]
   ·simp at J
  simp only[kh,aN]at J
  split at J
  ·rename_i ax;exact fin true (fun _=>ax) J
  ·exact fin false (by simp) J
  ·exact fin false (by simp) J
  ·exact raw J
 | unOp op t x =>
  simp only[kh,aN]at J
  split at J
  ·simp only[cc,oL]at J
   unfold LX at J
   simp only[bj,aN,my]
   split at J
   ·rename_i v az
    split at az
    ·rename_i b U
     cases az
     cases J
     rw[U]
     simp[Op.unary,jQ,pure,iL,fb,kg]
    ·simp at az
   ·simp at J
  ·simp only[cc,oL]at J
   unfold aap at J
   simp only[bj,aN,my]
   split at J
   ·rename_i v az
    split at az
    ·rename_i k n U
     cases az
     cases J
     rw[U]
     simp[Op.unary,Op.intArith,jQ,pure,iL,fb]
    ·simp at az
   ·simp at J
  ·exact raw J
 | convert s t x =>
  simp only[kh,aN]at J
  split at J
  ·rename_i ya k ad ag
   simp only[cc,oL]at J
   unfold LV at J
   simp only[bj,aN,my]
   split at J
   ·rename_i v az
    split at az
    ·rename_i qy n U
     cases az
     cases J
     rw[U]
     simp only[ajw ad ag]
     rfl
    ·simp at az
   ·simp at J
  ·exact raw J
 | makeFunc fn first captured =>
  simp only[kh,aN]at J
  split at J
  ·rename_i g
   simp only[cc,HU,Jz]at J
   simp only[bj,aN]
   split at J
   ·rename_i a b ae ab
    simp only[ae,ab]
    exact J
   ·rename_i aw
    split
    ·rename_i a b ae ab;exact absurd ab (aw a b ae)
    ·exact J
  ·exact raw J
 | slice t x lo hi gM =>
  simp only[kh,aN]at J
  split at J
  ·rename_i elem ax
   split at J
   ·rename_i size dn
    simp only[cc,oL,auJ]at J
    simp only[bj,aN]
    rw[agD ax dn,my]
    exact J
   ·exact raw J
  ·exact raw J
 | fieldAddr s x qc =>
  simp only[kh,aN]at J
  split at J
  ·rename_i t off ae
   simp only[cc,oL]at J
   simp only[bj,aN,my,Kn,ae]
   exact J
  ·exact raw J
 | field s x qc =>
  simp only[kh,aN]at J
  split at J
  ·rename_i t off ae
   split at J
   ·rename_i b n ab aw
    simp only[cc,oL,aao]at J
    simp only[bj,aN,my,ae]
    cases kG:((eb pol x).get e).isAgg with
    | false=>simp[kG]at J
    | true =>
     simp only[kG,cQ]at J
     simp only[V3 ab aw]
     exact J
   ·exact raw J
  ·exact raw J
 | indexAddr t x ix =>
  simp only[kh,aN]at J
  split at J
  ·rename_i elem ax
   split at J
   ·rename_i size dn
    simp only[cc,oL]at J
    simp only[bj,aN,my,Gn,ax]
    split at J
    ·rename_i j aU
     simp only[aU]
     split at J
     ·rename_i v az
      cases J
      unfold BT at az
      split at az
      ·rename_i U
       simp only[U,dn]
       split at az
       ·rename_i y ar
        split at az
        ·rename_i an
         cases az
         simp[ar,an]
        ·simp at az
       ·simp at az
      ·rename_i U
       simp only[U,dn]
       split at az
       ·rename_i af
        cases az
        simp[af]
       ·simp at az
      ·simp at az
     ·simp at J
    ·simp at J
   ·exact raw J
  ·rename_i len elem ax
   split at J
   ·rename_i size dn
    simp only[cc,oL]at J
    simp only[bj,aN,my,Gn,ax]
    split at J
    ·rename_i j aU
     simp only[aU,dn]
     exact J
    ·simp at J
   ·exact raw J
  ·exact raw J
 | index t x ix =>
  simp only[kh,aN]at J
  split at J
  ·rename_i len elem ax
   split at J
   ·rename_i size b dn ab
    simp only[cc,oL]at J
    simp only[bj,aN,my,Ko,ax]
    split at J
    ·rename_i j aU
     simp only[aU,dn]
     cases kG:((eb pol x).get e).isAgg with
     | false=>simp[kG]at J
     | true =>
      simp only[kG,cQ]at J
      split at J
      ·rename_i aB
       simp only[aB,cQ,V3 ab dn]
       exact J
      ·simp at J
    ·simp at J
   ·exact raw J
  ·exact raw J
 | extract x i =>
  simp only[kh,aN,cc,oL,HT]at J
  simp only[bj,aN,my]
  split at J
  ·rename_i v az
   cases J
   split at az
   ·rename_i vs U
    rw[U]
    simp only
    split at az
    ·rename_i y ar
     cases az
     rw[ar]
    ·simp at az
   ·rename_i vs U
    rw[U]
    simp only[az]
   ·simp at az
  ·simp at J
 | call c =>
  simp only[kh,aN]at J
  split at J
  ·rename_i b ab
   simp only[bj,aN,ab]
   split at J
   ·rename_i x t ae ax
    split at J
    ·rename_i el HH
     simp only[cc,oL,zU]at J
     simp only[mI,ae,ax,HH,gz,nB,my]
     split at J
     ·rename_i v az
      cases J
      split at az
      ·rename_i n aw
       cases az
       simp only[aw]
       rfl
      ·simp at az
     ·simp at J
    ·have:=raw J;simpa only[bj,aN,ab]using this
   ·rename_i s x t u ae ax
    split at J
    ·rename_i elem aBJ ad ag
     split at J
     ·rename_i size bytes aJ bL
      split at J
      ·have:=raw J;simpa only[bj,aN,ab]using this
      ·rename_i af
       simp only[cc,aAC]at J
       simp only[mI,ae,ax,ag,gz,nB,my]
       rw[agn ad aJ bL af]
       exact J
     ·have:=raw J;simpa only[bj,aN,ab]using this
    ·have:=raw J;simpa only[bj,aN,ab]using this
   ·rename_i x y ae
    simp only[cc,oL]at J
    split at J
    ·rename_i v az
     cases J
     unfold Sq at az
     simp only[ae,gz,nB,my]
     split at az
     ·rename_i k a bg b U ar
      cases az
      rw[U,ar]
      simp[mI]
     ·simp at az
    ·simp at J
   ·rename_i x y ae
    simp only[cc,oL]at J
    split at J
    ·rename_i v az
     cases J
     unfold Sq at az
     simp only[ae,gz,nB,my]
     split at az
     ·rename_i k a bg b U ar
      cases az
      rw[U,ar]
      simp[mI]
     ·simp at az
    ·simp at J
   ·have:=raw J;simpa only[bj,aN,ab]using this
  ·rename_i g ay
   simp only[cc,Jz]at J
   simp only[bj,aN,ay,my]
   exact J
  ·have:=raw J;simpa only[bj,aN]using this
 | _=>simp only[kh,aN]at J;exact raw J
end Go.Abs
/- What is shown of the states of code worked out ahead is so of the evaluator; the door for a function's contract. -/
namespace Go.Abs
open Go
variable{P:Program}{pol:c4}{K:eZ}{I:eY}{f:FuncId}{n m:Nat}
structure fI(n:Nat)(e:aM)(env:Env):Prop where
 len:env.length=n
 get:∀ t,env.getD t .dead=e t
theorem fI.eval{e:aM}{env:Env}(h:fI n e env):g7 pol env=gx pol e:=by
 funext x
 cases x with
 | tmp t=>exact h.get t
 | const v=>simp only[g7,gx,eb];split<;>rfl
 | global g=>simp only[g7,gx,eb];cases pol.gK g<;>rfl
 | func g=>rfl
theorem fI.put{e:aM}{env:Env}(h:fI n e env){d:Option Tmp}(aF:oX n d=true)(v:ah):fI n (eW e d v) (put env d v):=by
 cases d with
 | none=>exact h
 | some d =>
  simp only[oX,ho]at aF
  refine⟨by simp[Go.Abs.put,h.len],fun t=>?_⟩
  simp only[Go.Abs.put,eW,qU]
  by_cases ax:t=d
  ·subst ax
   rw[l7 (by rw[h.len];exact aF)]
   simp
  ·rw[iv (fun e=>ax e.symm)]
   simp only[ax,et]
   rw[← h.get t,qU]
theorem fI.tidy{e:aM}{env:Env}(h:fI n e env)(live:Option (List Tmp)):fI n (eR live e) (tidy live env):=by
 cases live with
 | none=>exact h
 | some aq =>
  refine⟨by simp[Go.Abs.tidy,ER,h.len],fun t=>?_⟩
  simp only[Go.Abs.tidy,ER,eR,qU,J8]
  have:=h.get t
  rw[qU]at this
  cases U:env[t]? with
  | none=>rw[U]at this;simp at this;simp[← this]
  | some v=>rw[U]at this;simp at this;simp[this]
theorem fI.dV{e:aM}{env:Env}(h:fI n e env)(av:aj)(p:Nat→Bool):fI n (kV av p e) (uJ av p env):=by
 refine⟨by simp[uJ,h.len],fun t=>?_⟩
 have:=h.get t
 simp only[uJ,kV,qU,eE]at this ⊢
 cases U:env[t]? with
 | none=>rw[U]at this;simp at this;rw[← this];simp[Go.Abs.dV,jk,cL]
 | some v=>rw[U]at this;simp at this;subst this;rfl
theorem fI.freeze{e bs:aM}{env:Env}{h ai:aj}{os:List Nat}(ae:fI n e env)(J:KY os e h=some (bs,ai)):∃ bz,freeze os env h=some (bz,ai)∧fI n bs bz:=by
 unfold KY at J
 split at J
 ·rename_i ag ay
  cases J
  exact⟨_,by unfold Go.Abs.freeze;rw[ay],ae.dV h _⟩
 ·simp at J
theorem fI.shrink{e bs:aM}{env:Env}{h ai:aj}{cF:Nat}(ae:fI n e env)(J:iq cF e h=some (bs,ai)):∃ bz,shrink cF env h=some (bz,ai)∧fI n bs bz:=by
 unfold iq at J
 split at J
 ·rename_i ao
  cases J
  exact⟨env,by unfold Go.Abs.shrink;rw[a6 ao],ae⟩
 ·rename_i ao
  split at J
  ·rename_i ag hm
   cases J
   exact⟨_,by unfold Go.Abs.shrink;rw[a2 ao,hm],ae.dV h _⟩
  ·simp at J
theorem K9{ops:List Oper}{e:aM}{env:Env}(ae:fI n e env){g:Option (Nat × Bool)}{hX:Option (Tmp × Bool)}(ay:Dr ops g=some hX):mN ops env g=pM e hX:=by
 cases g with
 | none=>simp[Dr]at ay;subst ay;rfl
 | some IN =>
  obtain⟨j,wT⟩:=IN
  simp only[Dr]at ay
  split at ay
  ·rename_i o aC
   split at ay
   ·rename_i d aF
    cases ay
    simp only[mN,aC,aF,pM,ae.get]
    rfl
   ·simp at ay
  ·simp at ay
theorem Jj{o:Oper}{e:aM}{env:Env}{h ai:aj}{v:ah}(ae:fI n e env)(J:n4 pol K I f o.dst h (cc P pol f e h (kh P pol f o))=some (v,ai)):lK P pol K I f o env h=some (put env o.dst v,ai):=by
 unfold lK
 rw[ae.eval]
 unfold n4 at J
 split at J
 ·rename_i v2 ag al
  cases J
  rw[N2 al]
 ·rename_i ag al
  cases J
  rw[N2 al]
 ·rename_i g args al
  rw[N2 al]
  simp only[J]
 ·simp at J
theorem aBb{ops:List Oper}:∀(rest:List Oper) {l:List da} {Q:aM→aj→Prop} {e:aM} {env:Env} {h:aj},Gw P pol f n ops rest=some l→fI n e env→wpOps P pol K I f l Q e h →
  ∃ bz ai bs,kc P pol K I f ops rest env h=some (bz,ai)∧fI n bs bz∧Q bs ai:=by
 intro rest
 induction rest with
 | nil=>intro l Q e env h af ae hw;simp[Gw]at af;subst af;exact⟨env,h,e,rfl,ae,hw⟩
 | cons o rest au =>
  intro l Q e env h af ae hw
  simp only[Gw]at af
  split at af
  ·rename_i g gQ ay ao
   split at af
   ·rename_i aF
    cases af
    simp only[wpOps]at hw
    simp only[kc,K9 ae ay]
    split at hw
    ·rename_i iD
     simp only[iD,cQ]
     unfold nI
     split at hw
     ·rename_i fm
      cases iC:pol.dV f (o.dst.getD 0)with
      | true=>simp[iC]at fm
      | false =>
       simp only[fJ,et]
       split at hw
       ·rename_i v ai al
        rw[Jj ae al]
        exact au ao (ae.put aF v) hw
       ·exact hw.elim
     ·rename_i os fm
      cases iC:pol.dV f (o.dst.getD 0)with
      | false=>simp[iC]at fm
      | true =>
       simp[iC]at fm
       subst fm
       simp only[cQ]
       split at hw
       ·rename_i aT ad aI
        rw[Jz,← ae.eval]at aI
        obtain⟨eg,anc,xz⟩:=ae.freeze aI
        rw[anc]
        simp only
        split at hw
        ·rename_i v ai al
         rw[Jj xz al]
         exact au ao (xz.put aF v) hw
        ·exact hw.elim
       ·exact hw.elim
    ·rename_i iD
     simp only[iD,fJ,et]
     exact au ao (ae.put aF _) hw
    ·exact hw.elim
   ·simp at af
  ·simp at af
theorem aer{e:aM}{env:Env}{o:Oper}{rest:List Oper}(ae:fI n e env):yv P env o rest=Kw P n o rest:=by
 unfold yv
 rw[ae.len]
theorem ajr{ops:List Oper}{o:Oper}{rest:List Oper}{env eg:Env}{h ad:aj}(al:¬ yv P env o rest=true)(fm:pol.dV f (o.dst.getD 0)=false)(ay:mN ops env o.guard=some true)(J:lK P pol K I f o env h=some (eg,ad)) :
  kc P pol K I f ops (o::rest) env h=kc P pol K I f ops rest eg ad∧kd P pol K I f ops (o::rest) env h=kd P pol K I f ops rest eg ad:=by
 have ag:nI P pol K I f o env h=some (eg,ad):=by unfold nI;simp only[fm,fJ,et];exact J
 have aJ:qW P pol I f o env h=none:=by
  cases av:qW P pol I f o env h with
  | none=>rfl
  | some y=>rw[Vn av]at J;cases J
 constructor
 ·rw[kc];simp only[ay,cQ,ag]
 ·rw[kd,a2 al];simp only[ay,cQ,fm,fJ,et,aJ,ag]
theorem ajq{ops:List Oper}{o:Oper}{rest:List Oper}{env:Env}{h:aj}(al:¬ yv P env o rest=true)(ay:mN ops env o.guard=some false) :
  kc P pol K I f ops (o::rest) env h=kc P pol K I f ops rest (put env o.dst (.t (.aA undef))) h∧kd P pol K I f ops (o::rest) env h=kd P pol K I f ops rest (put env o.dst (.t (.aA undef))) h:=by
 constructor
 ·rw[kc];simp only[ay,fJ,et]
 ·rw[kd,a2 al];simp only[ay,fJ,et]
theorem aBa{ops:List Oper}:∀(rest:List Oper) {l:List da} {Q:cW→aM→aj→Prop} {e:aM} {env:Env} {h:aj},Gy P pol f n ops rest=some l→fI n e env→kv P pol K I f l Q e h →
  ∃ bz ai bs,((kc P pol K I f ops rest env h=some (bz,ai)∧Q .normal bs ai)∨(kd P pol K I f ops rest env h=some (bz,ai)∧Q .panic bs ai))∧fI n bs bz:=by
 intro rest
 induction rest with
 | nil=>intro l Q e env h af ae hw;simp[Gy]at af;subst af;exact⟨env,h,e,.inl ⟨rfl,hw⟩,ae⟩
 | cons o rest au =>
  intro l Q e env h af ae hw
  simp only[Gy]at af
  split at af
  ·rename_i bl
   cases af
   simp only[kv]at hw
   have al:yv P env o rest=true:=by rw[aer ae];exact bl
   obtain⟨t,x,d,h7,Fa,ty,aC,aF,ay,_,_,_,aB,_⟩:=Vz al
   refine⟨put env o.dst .dead,h,eW e o.dst .dead,.inr ⟨by unfold kd;rw[a6 al],hw⟩,ae.put ?_ _⟩
   rw[aF]
   simp only[oX,ho]
   rw[← ae.len];exact aB
  ·rename_i bl
   have al:¬ yv P env o rest=true:=by rw[aer ae];exact bl
   split at af
   ·rename_i g gQ ay ao
    split at af
    ·rename_i aF
     cases af
     simp only[fe,pC]at aF
     obtain⟨aF,fm⟩:=aF
     have go:∀ {v:ah} {ai:aj},lK P pol K I f o env h=some (put env o.dst v,ai)→mN ops env o.guard=some true→kv P pol K I f gQ Q (eW e o.dst v) ai →
       ∃ bz ai bs,((kc P pol K I f ops (o::rest) env h=some (bz,ai)∧Q .normal bs ai)∨(kd P pol K I f ops (o::rest) env h=some (bz,ai)∧Q .panic bs ai))∧fI n bs bz:=by
      intro v ai J kX hw
      obtain⟨a3,a7⟩:=ajr al fm kX J
      rw[a3,a7]
      exact au ao (ae.put aF v) hw
     simp only[kv]at hw
     split at hw
     ·rename_i iD
      have kX:mN ops env o.guard=some true:=by rw[K9 ae ay];exact iD
      split at hw
      ·rename_i c5 args aS
       split at hw
       ·rename_i hf
        split at hw
        ·rename_i v ai bK
         have iA:bj P pol f (g7 pol env) h o=some (.call (.fn c5) args):=by rw[ae.eval];exact N2 aS
         by_cases az:v=.dead
         ·subst az
          refine⟨env,ai,e,.inr ⟨?_,hw⟩,ae⟩
          rw[kd,a2 al]
          have:qW P pol I f o env h=some ai:=by unfold qW;simp only[iA,hf,cQ,bK]
          simp only[kX,cQ,fm,fJ,et,this]
         ·have hw:(match pr (pol.trim c5) h (some (v,ai))with|some (v,ag)=>kv P pol K I f gQ Q (eW e o.dst v) ag|none=>False):=by
           cases v<;>first|exact absurd rfl az|exact hw
          split at hw
          ·rename_i v2 ag aoA
           refine go ?_ kX hw
           unfold lK
           have tq:alive (some (v,ai))=some (v,ai):=by cases v<;>first|exact absurd rfl az|rfl
           simp only[iA,iw,hf,cQ,bK,tq,aoA]
          ·exact hw.elim
        ·exact hw.elim
       ·split at hw
        ·rename_i v ai tC
         exact go (Jj ae (by rw[aS];exact tC)) kX hw
        ·exact hw.elim
      ·split at hw
       ·rename_i v ai tC
        exact go (Jj ae tC) kX hw
       ·exact hw.elim
     ·rename_i iD
      have kX:mN ops env o.guard=some false:=by rw[K9 ae ay];exact iD
      obtain⟨a3,a7⟩:=ajq (K:=K) (I:=I) (pol:=pol) (f:=f) (h:=h) al kX
      rw[a3,a7]
      exact au ao (ae.put aF _) hw
     ·exact hw.elim
    ·simp at af
   ·simp at af
theorem azA{o:Oper}{e:aM}{env:Env}(ae:fI n e env):cO pol f (g7 pol env) o=p3 pol f o.dst e (uF pol o):=by
 rw[ae.eval]
 have ad:∀ x,cl (gx pol e x)=(ly e [eb pol x]).flatMap cl:=fun x=>by simp[ly,gx]
 have ag:∀ l:List Operand,(l.flatMap fun a=>cl (gx pol e a))=(ly e (l.map (eb pol))).flatMap cl:=fun l=>by rw[Jz];induction l<;>simp_all
 cases aN:o.op with
 | load t a=>simp only[cO,uF,aN,p3,ad]
 | store t a x=>simp only[cO,uF,aN,p3,ad]
 | lookup t m k ok=>simp only[cO,uF,aN,p3,ad]
 | mapUpdate t m k x=>simp only[cO,uF,aN,p3,ad]
 | insert t m k x=>simp only[cO,uF,aN,p3,ad]
 | call c =>
  cases af:c.callee with
  | builtin b=>cases b<;>simp only[cO,uF,aN,af,p3,ag,ly,Ph]
  | value g =>
   simp only[cO,uF,aN,af,p3,Jz]
   rfl
  | invoke r k=>simp only[cO,uF,aN,af,p3]
 | _=>simp only[cO,uF,aN,p3,ly,Ph]
theorem aA9{ops:List Oper}:∀(rest:List Oper) {l:List da} {Q:aM→aj→List (Option (List Nat))→Prop} {e:aM} {env:Env} {h:aj},Gx P pol f n ops rest=some l→fI n e env→yO P pol K I f l Q e h →
  ∃ bz ai aq bs,pD P pol K I f ops rest env h=some (bz,ai,aq)∧fI n bs bz∧Q bs ai aq:=by
 intro rest
 induction rest with
 | nil=>intro l Q e env h af ae hw;simp[Gx]at af;subst af;exact⟨env,h,[],e,rfl,ae,hw⟩
 | cons o rest au =>
  intro l Q e env h af ae hw
  simp only[Gx]at af
  split at af
  ·rename_i g gQ ay ao
   split at af
   ·rename_i aF
    cases af
    simp only[yO]at hw
    simp only[pD,K9 ae ay]
    split at hw
    ·rename_i iD
     simp only[iD,cQ]
     split at hw
     ·rename_i v ai al
      rw[Jj ae al]
      simp only
      split at hw
      ·exact hw.elim
      ·rename_i hlen
       obtain⟨hx,ag,aq,aW,b9,b3,cG⟩:=au ao (ae.put aF v) hw
       refine⟨hx,ag,_,aW,by simp only[hlen,et,b9];rfl,b3,?_⟩
       rw[azA ae]
       exact cG
     ·exact hw.elim
    ·rename_i iD
     simp only[iD,fJ,et]
     obtain⟨hx,ag,aq,aW,b9,b3,cG⟩:=au ao (ae.put aF _) hw
     exact⟨hx,ag,_,aW,by simp only[b9],b3,cG⟩
    ·exact hw.elim
   ·simp at af
  ·simp at af
theorem afv{cF:Nat}{live:Option (List Tmp)}{body:(cW→aM→aj→Prop)→aM→aj→Prop}{p9:Env→aj→Option (cW × Env × aj)}{Q:cW→aM→aj→Prop}
  (ab:∀ {Q:cW→aM→aj→Prop} {e:aM} {env:Env} {h:aj},fI n e env→body Q e h→∃ x bz ai bs,p9 env h=some (x,bz,ai)∧fI n bs bz∧Q x bs ai) :
  ∀(k:Nat) {e:aM} {env:Env} {h:aj},fI n e env→gP cF live body Q k e h→∃ x bz ai bs,iter cF live p9 k env h=some (x,bz,ai)∧fI n bs bz∧Q x bs ai:=by
 intro k
 induction k with
 | zero=>intro e env h _ hw;exact hw.elim
 | succ k au =>
  intro e env h ae hw
  simp only[gP]at hw
  obtain⟨x,eg,ad,aT,b9,b3,cG⟩:=ab (ae.tidy live) hw
  cases x with
  | normal =>
   simp only at cG
   split at cG
   ·rename_i aW ag J
    obtain⟨hx,a3,a7⟩:=b3.shrink J
    obtain⟨x,sd,aJ,bw,s1,s2,a8⟩:=au a7 cG
    exact⟨x,sd,aJ,bw,by simp only[iter,b9,a3];exact s1,s2,a8⟩
   ·exact cG.elim
  | exit id=>exact⟨_,eg,ad,aT,by simp only[iter,b9],b3,cG⟩
  | ret=>exact⟨_,eg,ad,aT,by simp only[iter,b9],b3,cG⟩
  | panic=>exact⟨_,eg,ad,aT,by simp only[iter,b9],b3,cG⟩
theorem Oj:∀(c:Code) {dd:Nat} {Q:cW→aM→aj→Prop} {e:aM} {env:Env} {h:aj},fI n e env→iO P pol K I m f (eS P pol f n dd c) Q e h →
  ∃ x bz ai bs,du P pol K I m f dd c env h=some (x,bz,ai)∧fI n bs bz∧Q x bs ai:=by
 intro c
 induction c with
 | skip=>intro dd Q e env h ae hw;exact⟨_,env,h,e,rfl,ae,hw⟩
 | label l=>intro dd Q e env h ae hw;exact⟨_,env,h,e,rfl,ae,hw⟩
 | exit id=>intro dd Q e env h ae hw;exact⟨_,env,h,e,rfl,ae,hw⟩
 | ret=>intro dd Q e env h ae hw;exact⟨_,env,h,e,rfl,ae,hw⟩
 | region id ops vE =>
  intro dd Q e env h ae hw
  cases vE with
  | false =>
   simp only[eS]at hw
   split at hw
   ·rename_i o4
    split at hw
    ·rename_i l ao
     simp only[iO]at hw
     obtain⟨hx,ag,aW,⟨b9,cG⟩|⟨b9,cG⟩,b3⟩:=aBa _ ao ae hw
     ·exact⟨_,hx,ag,aW,by simp only[du,b9],b3,cG⟩
     ·exact⟨_,hx,ag,aW,by simp only[du,adJ _ b9,o4,cQ,b9],b3,cG⟩
    ·exact hw.elim
   ·split at hw
    ·rename_i l ao
     simp only[iO]at hw
     obtain⟨hx,ag,aW,b9,b3,cG⟩:=aBb _ ao ae hw
     exact⟨_,hx,ag,aW,by simp only[du,b9],b3,cG⟩
    ·exact hw.elim
  | true =>
   simp only[eS]at hw
   split at hw
   ·rename_i l ao
    simp only[iO]at hw
    obtain⟨hx,ag,aq,aW,b9,b3,cG,nr⟩:=aA9 _ ao ae hw
    exact⟨_,hx,ag,aW,by simp only[du,b9,cG,cQ],b3,nr⟩
   ·exact hw.elim
 | seq a b rq sx =>
  intro dd Q e env h ae hw
  simp only[eS,iO]at hw
  obtain⟨x,eg,ad,aT,b9,b3,cG⟩:=rq ae hw
  cases x with
  | normal =>
   obtain⟨x,hx,ag,aW,s1,s2,a8⟩:=sx b3 cG
   exact⟨x,hx,ag,aW,by simp only[du,b9];exact s1,s2,a8⟩
  | exit id=>exact⟨_,eg,ad,aT,by simp only[du,b9],b3,cG⟩
  | ret=>exact⟨_,eg,ad,aT,by simp only[du,b9],b3,cG⟩
  | panic=>exact⟨_,eg,ad,aT,by simp only[du,b9],b3,cG⟩
 | cond t a b rq sx =>
  intro dd Q e env h ae hw
  simp only[eS,iO]at hw
  split at hw
  ·rename_i v az
   have oy:g7 pol env t=.t (.aA (.bool v)):=by rw[ae.eval];exact az
   cases v with
   | true =>
    obtain⟨x,hx,ag,aW,s1,s2,a8⟩:=rq ae (by simpa using hw)
    exact⟨x,hx,ag,aW,by simp only[du,oy,cQ];exact s1,s2,a8⟩
   | false =>
    obtain⟨x,hx,ag,aW,s1,s2,a8⟩:=sx ae (by simpa using hw)
    exact⟨x,hx,ag,aW,by simp only[du,oy,fJ,et];exact s1,s2,a8⟩
  ·exact hw.elim
 | block id c au =>
  intro dd Q e env h ae hw
  simp only[eS,iO]at hw
  obtain⟨x,eg,ad,aT,b9,b3,cG⟩:=au ae hw
  cases x with
  | normal=>exact⟨_,eg,ad,aT,by simp only[du,b9],b3,cG⟩
  | ret=>exact⟨_,eg,ad,aT,by simp only[du,b9],b3,cG⟩
  | panic=>exact⟨_,eg,ad,aT,by simp only[du,b9],b3,cG⟩
  | exit j =>
   simp only at cG
   split at cG
   ·rename_i aU
    exact⟨_,eg,ad,aT,by simp only[du,b9,aU,cQ],b3,cG⟩
   ·rename_i aU
    exact⟨_,eg,ad,aT,by simp only[du,b9,aU,et],b3,cG⟩
 | loop c au =>
  intro dd Q e env h ae hw
  simp only[eS]at hw
  simp only[du]
  split at hw
  ·rename_i an
   simp only[iO]at hw
   rw[a6 an]
   exact afv (body:=iO P pol K I m f (eS P pol f n dd c)) (fun ae hw=>au ae hw) m ae hw
  ·rename_i an
   simp only[iO]at hw
   rw[a2 an]
   exact afv (body:=iO P pol K I m f (eS P pol f n dd c)) (fun ae hw=>au ae hw) m ae hw
 | scope c au =>
  intro dd Q e env h ae hw
  simp only[eS]at hw
  simp only[du]
  exact au ae hw
 | rangeFunc g params assign body _ _ =>
  intro dd Q e env h ae hw
  simp only[eS,iO]at hw
  have ay:g7 pol env g=(eb pol g).get e:=by rw[ae.eval];rfl
  have rb:tidy (pol.live f dd) env=(List.range n).map (eR (pol.live f dd) e):=by
   have ax:=ae.tidy (pol.live f dd)
   apply y1
   intro i
   rw[eE]
   by_cases hi:i<n
   ·have:=ax.get i
    rw[qU,fC (by rw[ax.len];exact hi)]at this
    rw[List.getElem?_range hi,fC (by rw[ax.len];exact hi)]
    simpa using this
   ·rw[kb (by rw[ax.len];omega),kb (by simp;omega)]
    rfl
  simp only[du,ay]
  split at hw
  ·rename_i nS args gf
   simp only[gf,rb]
   split at hw
   ·rename_i v ag bK
    rw[bK]
    simp only
    split at hw
    ·rename_i aW aJ lO J
     obtain⟨hx,a3,a7⟩:=ae.shrink J
     exact⟨_,hx,aJ,aW,by simp only[lO,a3],a7,hw⟩
    ·rename_i aW aJ lO J
     obtain⟨hx,a3,a7⟩:=ae.shrink J
     exact⟨_,hx,aJ,aW,by simp only[lO,a3],a7,hw⟩
    ·rename_i id aW aJ lO J
     obtain⟨hx,a3,a7⟩:=ae.shrink J
     exact⟨_,hx,aJ,aW,by simp only[lO,a3],a7,hw⟩
    ·exact hw.elim
   ·exact hw.elim
  ·exact hw.elim
 | _=>intro dd Q e env h ae hw;exact hw.elim
theorem NA{e:aM}{env:Env}{h:aj}(ae:fI n e env):∀ {rs:List ResultVar} {Fk:List (Nat × Option (Bool × Nat))},uE P rs=some Fk→qa P env h rs=jR e h Fk:=by
 intro rs
 induction rs with
 | nil=>intro Fk af;simp[uE]at af;subst af;rfl
 | cons r rs au =>
  intro Fk af
  cases r with
  | tmp t =>
   simp only[uE]at af
   split at af
   ·rename_i l ao
    cases af
    simp only[qa,Dg,au ao,jR,ae.get]
    cases jR e h l<;>rfl
   ·simp at af
  | cell a t =>
   simp only[uE]at af
   split at af
   ·rename_i b k l ad ag ao
    cases af
    simp only[qa,Dg,au ao,jR,ae.get,W3 ad ag]
    cases rp b k (e a) h<;>cases jR e h l<;>rfl
   ·simp at af
theorem KO{args:List ah}{k:Nat}(an:args.length≤k):fI k (pH args) (args++List.replicate (k-args.length) .dead):=by
 refine⟨by simp;omega,fun t=>?_⟩
 simp only[pH,qU]
 by_cases ax:t<args.length
 ·rw[fv ax]
 ·rw[g5 (by omega),kb (l:=args) (by omega),s7]
  split<;>rfl
def u1(Q:ah→aj→Prop):ah→aj→Prop
 | .dead,_=>False
 | v,h=>Q v h
theorem ac6{Q:ah→aj→Prop}{v:ah}{h:aj}(aE:u1 Q v h):alive (some (v,h))=some (v,h)∧Q v h:=by
 cases v<;>first|exact aE.elim|exact⟨rfl,aE⟩
def Wl(P:Program)(pol:c4)(K:eZ)(I:eY)(m:Nat)(f:FuncId)(F:FP)(args:List ah)(h:aj)(Q:ah→aj→Prop):Prop :=
 iO P pol K I m f F.code (fun x e h=>match x with
  | .exit _=>False
  | .panic=>Q .dead h
  | _=>match jR e h F.results with
   | some vs=>u1 Q (one vs) h
   | none=>False) (pH args) h
theorem Wm{F:FP}{args:List ah}{h:aj}{Q:ah→aj→Prop}(eA:lL P pol f=some F)(ao:args.length≤F.ntmps)(hw:Wl P pol K I m f F args h Q):∃ v ai,p9 P pol K I m f args h=some (v,ai)∧Q v ai:=by
 unfold lL at eA
 split at eA
 ·rename_i fn aI
  split at eA
  ·rename_i c rs af al
   cases eA
   obtain⟨x,bz,ai,bs,b9,b3,cG⟩:=Oj c (KO (k:=fn.ntmps) ao) hw
   have qp:=NA (h:=ai) b3 al
   unfold p9
   simp only[aI,af]
   rw[b9]
   cases x with
   | exit id=>exact cG.elim
   | panic=>exact⟨_,_,rfl,cG⟩
   | normal =>
    simp only at cG ⊢
    split at cG
    ·rename_i vs g9
     obtain⟨a3,a7⟩:=ac6 cG
     rw[qp,g9]
     exact⟨_,_,a3,a7⟩
    ·exact cG.elim
   | ret =>
    simp only at cG ⊢
    split at cG
    ·rename_i vs g9
     obtain⟨a3,a7⟩:=ac6 cG
     rw[qp,g9]
     exact⟨_,_,a3,a7⟩
    ·exact cG.elim
  ·simp at eA
 ·simp at eA
theorem agX{F:FP}{args:List T}{r:T}(n d:Nat)(eA:lL P pol f=some F)(av:wB pol f args=none)(ao:args.length≤F.ntmps)
  (hw:Wl P pol (a0 P pol) (inl P pol (a0 P pol) n d) n f F (args.map .t) [] (fun v h=>snap h ez 20 v=some r)):a0 P pol f args=some r:=by
 obtain⟨v,ai,ad,ag⟩:=Wm eA (by simpa using ao) hw
 refine Xd (n:=n) (d:=d) av ?_
 unfold wI
 rw[ad]
 exact ag
theorem arE{F:FP}{args:List ah}{h:aj}{n d:Nat}{Q:ah→aj→Prop}(eA:lL P pol f=some F)(ao:args.length≤F.ntmps)(hw:Wl P pol K (inl P pol K n d) n f F args h Q) :
  ∃ v ai,inl P pol K n (d+1) (.fn f) args h=some (v,ai)∧Q v ai:=Wm eA ao hw
end Go.Abs
