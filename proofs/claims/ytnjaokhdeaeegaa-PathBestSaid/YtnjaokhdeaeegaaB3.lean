/- Part 3 of the proof of PathBest. -/
import Derived.Test.YtnjaokhdeaeegaaB2
import Derived.ProofKit
import Derived.SizedLaws
import GoSem.Core.View
import GoSem.Claim
set_option linter.all false
set_option maxRecDepth 100000
set_option maxHeartbeats 4000000
/- From the given statement to the evaluator: arguments that read as data stand for trees; a law whose evaluation answers true on all trees of its parameters' types holds. -/
namespace Go.Abs
open Go Go.RowKit Go.WideShapes Go.ChangeShapes
variable {P:Program} {pol:Pol}
def fitV (P:Program) (F:TypeId→List T→Prop) (t:TypeId) (x:T):Prop :=
 match aggB P t with
 | some true=>∃ cs,x=.agg cs∧F t cs
 | _=>F t [x]
def FitC (P:Program):Nat→TypeId→List T→Prop
 | 0,_,_=>False
 | d+1,t,cs =>
  match P.underlying t with
  | some .bool=>∃ b,cs=[.sc (.bool b)]
  | some (.int k)=>∃ n,cs=[.sc (.int k n)]∧(Lit.int k n).wf=true
  | some .string=>∃ s,cs=[.sc (.string s)]∧s.size≤maxLen
  | some (.slice e)=>∃ xs,cs=[.sl false (P.cellsOf e) xs]∧(xs.length≤maxLen∧xs.length*P.bytesOf e≤reachBytes)∧∀ x∈xs,fitV P (FitC P d) e x
  | some (.struct fs)=>cs.length=P.cellsOf t∧∀ f∈fs.toList,FitC P d f.type ((cs.drop f.offset).take (P.cellsOf f.type))
  | some (.array n e)=>cs.length=P.cellsOf t∧∀ i,i < n→FitC P d e ((cs.drop (i*P.cellsOf e)).take (P.cellsOf e))
  | _=>False
def FitAll (P:Program) (d:Nat):List TypeId→List T→Prop
 | [],[]=>True
 | t::ts,x::xs=>fitV P (FitC P d) t x∧FitAll P d ts xs
 | _,_=>False
def laidAt (P:Program) (total:Nat):Nat→List Field→Bool
 | off,[]=>off == total
 | off,f::r=>f.offset == off && laidAt P total (off+P.cellsOf f.type) r
def plainT (P:Program):Nat→TypeId→Bool
 | 0,_=>false
 | d+1,t =>
  match P.underlying t with
  | some .bool=>true
  | some (.int _)=>true
  | some .string=>true
  | some (.slice e)=>decide (0 < P.cellsOf e) && plainT P d e
  | some (.struct fs)=>laidAt P (P.cellsOf t) 0 fs.toList && fs.toList.all fun f=>plainT P d f.type
  | some (.array n e)=>P.cellsOf t == n*P.cellsOf e && plainT P d e
  | _=>false
def RepC (D:Dom) (w:World) (vs:List Value) (ts:List T):Prop :=
 vs.length=ts.length∧∀ (i:Nat) v x,vs[i]? = some v→ts[i]? = some x→RepT D w v x∧okCell v=true
section
variable {D:Dom} {w:World}
theorem RepC.nil:RepC D w [] []:=⟨rfl,by simp⟩
theorem RepC.append {vs vs':List Value} {ts ts':List T} (h:RepC D w vs ts) (h':RepC D w vs' ts'):RepC D w (vs++vs') (ts++ts'):=by
 refine ⟨by simp [h.1,h'.1],fun i v x hv hx=>?_⟩
 by_cases hi:i < vs.length
 ·rw [List.getElem?_append_left hi] at hv
  rw [List.getElem?_append_left (by rw [← h.1]; exact hi)] at hx
  exact h.2 i v x hv hx
 ·rw [List.getElem?_append_right (by omega)] at hv
  rw [List.getElem?_append_right (by rw [← h.1]; omega)] at hx
  rw [← h.1] at hx
  exact h'.2 _ v x hv hx
theorem RepC.one {v:Value} {x:T} (h:RepT D w v x) (ho:okCell v=true):RepC D w [v] [x]:=by
 refine ⟨rfl,fun i u y hu hy=>?_⟩
 cases i with
 | zero=>simp at hu hy; subst hu; subst hy; exact ⟨h,ho⟩
 | succ i=>simp at hu
end
theorem q5w {total:Nat}:∀ {fs:List Field} {off:Nat},laidAt P total off fs=true→off≤total:=by
 intro fs
 induction fs with
 | nil=>intro off h; simp [laidAt] at h; omega
 | cons f r ih =>
  intro off h
  simp only [laidAt,Bool.and_eq_true] at h
  have:=ih h.2
  omega
theorem q5x {total:Nat}:∀ {fs:List Field} {off:Nat},laidAt P total off fs=true→∀ f∈fs,off≤f.offset:=by
 intro fs
 induction fs with
 | nil=>intro off h f hf; cases hf
 | cons g r ih =>
  intro off h f hf
  simp only [laidAt,Bool.and_eq_true,beq_iff_eq] at h
  cases hf with
  | head=>omega
  | tail _ hf=>have:=ih h.2 f hf; omega
theorem q9u {α β:Type} {f:α→Option β}:∀ {l:List α} {r:List β},l.mapM f=some r→r.length=l.length∧∀ a∈l,∃ b,f a=some b:=by
 intro l
 induction l with
 | nil=>intro r h; simp at h; subst h; exact ⟨rfl,by simp⟩
 | cons a l ih =>
  intro r h
  rw [List.mapM_cons] at h
  cases hf:f a with
  | none=>simp [hf] at h
  | some b =>
   cases hl:l.mapM f with
   | none=>simp [hf,hl] at h
   | some bs =>
    simp [hf,hl] at h
    subst h
    obtain ⟨h1,h2⟩:=ih hl
    refine ⟨by simp [h1],fun c hc=>?_⟩
    cases hc with
    | head=>exact ⟨b,hf⟩
    | tail _ hc=>exact h2 c hc
theorem q9v {D:Dom} {w:World} {k:Nat} {F:List T→Prop} {cs:List Value}:∀ (n:Nat),n*k≤cs.length→(∀ i,i < n→∃ ts,F ts∧RepC D w ((cs.drop (i*k)).take k) ts) →
  ∃ ts,RepC D w (cs.take (n*k)) ts∧∀ i,i < n→F ((ts.drop (i*k)).take k):=by
 intro n
 induction n with
 | zero=>intro _ _; exact ⟨[],by simpa using RepC.nil,fun i hi=>by omega⟩
 | succ n ih =>
  intro hl h
  have hl':n*k+k≤cs.length:=by rw [Nat.succ_mul] at hl; exact hl
  obtain ⟨ts,h1,h2⟩:=ih (by omega) (fun i hi=>h i (by omega))
  obtain ⟨us,h3,h4⟩:=h n (by omega)
  have hts:ts.length=n*k:=by rw [← h1.1,List.length_take]; omega
  have hus:us.length=k:=by rw [← h4.1,List.length_take,List.length_drop]; omega
  refine ⟨ts++us,?_,fun i hi=>?_⟩
  ·have:=h1.append h4
   rwa [← List.take_add,← Nat.succ_mul] at this
  ·by_cases hin:i=n
   ·subst hin
    rw [List.drop_append_of_le_length (by omega),List.drop_of_length_le (by omega),List.nil_append,List.take_of_length_le (by omega)]
    exact h3
   ·have hi':i < n:=by omega
    have hik:i*k+k≤n*k:=by rw [← Nat.succ_mul]; exact Nat.mul_le_mul_right _ hi'
    rw [List.drop_append_of_le_length (by omega),List.take_append_of_le_length (by rw [List.length_drop]; omega)]
    exact h2 i hi'
theorem q9w {D:Dom} {w:World} {F:TypeId→List T→Prop} {cs:List Value} {total:Nat} (hlen:cs.length=total):∀ (fs:List Field) (off:Nat),laidAt P total off fs=true →
  (∀ f∈fs,∃ ts,F f.type ts∧RepC D w ((cs.drop f.offset).take (P.cellsOf f.type)) ts)→∃ ts,RepC D w (cs.drop off) ts∧∀ f∈fs,F f.type ((ts.drop (f.offset - off)).take (P.cellsOf f.type)):=by
 intro fs
 induction fs with
 | nil =>
  intro off h _
  simp [laidAt] at h
  refine ⟨[],?_,by simp⟩
  rw [List.drop_of_length_le (by omega)]
  exact RepC.nil
 | cons f r ih =>
  intro off h hf
  have h':=h
  simp only [laidAt,Bool.and_eq_true,beq_iff_eq] at h
  obtain ⟨e,hr⟩:=h
  obtain ⟨ts,h1,h2⟩:=ih _ hr (fun g hg=>hf g (by simp [hg]))
  obtain ⟨us,h3,h4⟩:=hf f (by simp)
  have hle:=q5w hr
  rw [e] at h4
  have hus:us.length=P.cellsOf f.type:=by rw [← h4.1,List.length_take,List.length_drop]; omega
  refine ⟨us++ts,?_,fun g hg=>?_⟩
  ·have:=h4.append h1
   rwa [← List.drop_drop,List.take_append_drop] at this
  ·cases hg with
   | head =>
    rw [e,Nat.sub_self,List.drop_zero,List.take_append_of_le_length (by omega),List.take_of_length_le (by omega)]
    exact h3
   | tail _ hg =>
    have hge:=q5x hr g hg
    have:=h2 g hg
    rwa [List.drop_append,List.drop_of_length_le (by omega),List.nil_append,hus,Nat.sub_sub]
theorem q5y {w:World} {a:Addr} {v:Value} (h:w.cell? a=some v):a.block < w.heap.size∧a.spot=none:=by
 unfold World.cell? at h
 split at h
 ·rename_i c ty fr hc
  refine ⟨q0D hc,?_⟩
  split at h
  ·simp at h
  ·rename_i hs
   cases hsp:a.spot with
   | none=>rfl
   | some n=>simp [hsp] at hs
 ·simp at h
theorem q3o {w:World} {a:Addr} {n:Nat} {l:List Value} (h:w.cells? 0 a n=some l):l.length=n∧∀ (j:Nat) v,l[j]? = some v→w.cell? (a.add j)=some v:=by
 unfold World.cells? at h
 simp only [Nat.zero_le,if_true] at h
 have key:∀ (xs:List Nat) (l:List Value),xs.mapM (fun i=>w.cell? (a.add i))=some l→l.length=xs.length∧∀ (j:Nat) v i,l[j]? = some v→xs[j]? = some i→w.cell? (a.add i)=some v:=by
  intro xs
  induction xs with
  | nil=>intro l h; simp at h; subst h; exact ⟨rfl,by simp⟩
  | cons x xs ih =>
   intro l h
   rw [List.mapM_cons] at h
   cases hf:w.cell? (a.add x) with
   | none=>simp [hf] at h
   | some b =>
    cases hl:xs.mapM (fun i=>w.cell? (a.add i)) with
    | none=>simp [hf,hl] at h
    | some bs =>
     simp [hf,hl] at h
     subst h
     obtain ⟨h1,h2⟩:=ih bs hl
     refine ⟨by simp [h1],fun j v i hv hi=>?_⟩
     cases j with
     | zero=>simp at hv hi; subst hv; subst hi; exact hf
     | succ j=>exact h2 j v i (by simpa using hv) (by simpa using hi)
 obtain ⟨h1,h2⟩:=key _ _ h
 have hl:l.length=n:=by simpa using h1
 exact ⟨hl,fun j v hv=>h2 j v j hv (by
  have:j < n:=by rw [← hl]; exact (List.getElem?_eq_some_iff.1 hv).1
  simp [this])⟩
theorem q5z {a:Addr} (h:a.spot=none) (n:Nat):a.add n=⟨a.block,a.off+n,none⟩:=by
 unfold Addr.add
 split
 ·subst n; cases a; simp at h; subst h; rfl
 ·rfl
def lowD (w:World):Dom:=fun b=>b < w.heap.size
def isAggD:TypeDesc→Bool
 | .struct _=>true
 | .array _ _=>true
 | _=>false
theorem q5A {t:TypeId} {u:TypeDesc} (h:P.underlying t=some u):aggB P t=some (isAggD u):=by
 unfold aggB
 rw [h]
 cases u <;> rfl
theorem q3p {α β:Type} {f:α→Option β}:∀ {l:List α} {r:List β},l.mapM f=some r→∀ (j:Nat) a,l[j]? = some a→∃ b,r[j]? = some b∧f a=some b:=by
 intro l
 induction l with
 | nil=>intro r _ j a h; simp at h
 | cons x l ih =>
  intro r h j a ha
  rw [List.mapM_cons] at h
  cases hf:f x with
  | none=>simp [hf] at h
  | some b =>
   cases hl:l.mapM f with
   | none=>simp [hf,hl] at h
   | some bs =>
    simp [hf,hl] at h
    subst h
    cases j with
    | zero=>simp at ha; subst ha; exact ⟨b,rfl,hf⟩
    | succ j=>exact ih hl j a (by simpa using ha)
theorem q5B {H:Type} {e:TypeId} {n:Nat} {d:DataW H}:∀ {ds:List (DataW H)},d∈ds→n∈d.weights P e→n∈DataW.weightsAll P e ds:=by
 intro ds
 induction ds with
 | nil=>intro h; cases h
 | cons x ds ih =>
  intro h hn
  simp only [DataW.weightsAll,List.mem_append]
  cases h with
  | head=>exact .inl hn
  | tail _ h=>exact .inr (ih h hn)
theorem q9x {H:Type} {enc:TypeId × Value→H} {w:World} {sp:Nat→Bool} {held:Bool}:∀ (d:Nat) {t:TypeId} {fuel:Nat} {cs:List Value} {z:DataW H × List MemPlace},plainT P d t=true→DataW.trod enc P w 0 sp held fuel t cs=some z→(∀ n∈z.1.weights P t,n≤reachBytes) →
  ∃ ts,FitC P d t ts∧RepC (lowD w) w cs ts:=by
 intro d
 induction d with
 | zero=>intro t fuel cs z hp; simp [plainT] at hp
 | succ d ih =>
  intro t fuel cs z hp hr hz
  cases fuel with
  | zero=>simp [DataW.trod] at hr
  | succ fuel =>
   simp only [plainT] at hp
   have hfit:FitC P (d+1) t=fun cs=>match P.underlying t with
    | some .bool=>∃ b,cs=[.sc (.bool b)]
    | some (.int k)=>∃ n,cs=[.sc (.int k n)]∧(Lit.int k n).wf=true
    | some .string=>∃ s,cs=[.sc (.string s)]∧s.size≤maxLen
    | some (.slice e)=>∃ xs,cs=[.sl false (P.cellsOf e) xs]∧(xs.length≤maxLen∧xs.length*P.bytesOf e≤reachBytes)∧∀ x∈xs,fitV P (FitC P d) e x
    | some (.struct fs)=>cs.length=P.cellsOf t∧∀ f∈fs.toList,FitC P d f.type ((cs.drop f.offset).take (P.cellsOf f.type))
    | some (.array n e)=>cs.length=P.cellsOf t∧∀ i,i < n→FitC P d e ((cs.drop (i*P.cellsOf e)).take (P.cellsOf e))
    | _=>False:=rfl
   rw [hfit]
   clear hfit
   cases hu:P.underlying t with
   | none=>rw [hu] at hp; simp at hp
   | some u =>
    rw [hu] at hp
    cases u with
    | bool =>
     simp only [DataW.trod,hu] at hr ⊢
     match cs,hr with
     | [.bool b],hr=>exact ⟨_,⟨b,rfl⟩,RepC.one (.sc _ rfl) rfl⟩
    | int k =>
     simp only [DataW.trod,hu] at hr ⊢
     match cs,hr with
     | [.int k' n],hr =>
      simp only at hr
      split at hr
      ·rename_i hc
       obtain ⟨rfl,hw⟩:=hc
       exact ⟨_,⟨n,rfl,hw⟩,RepC.one (.sc _ rfl) rfl⟩
      ·simp at hr
    | string =>
     simp only [DataW.trod,hu] at hr ⊢
     match cs,hr with
     | [.string s],hr =>
      simp only at hr
      split at hr
      ·rename_i hc
       exact ⟨_,⟨s,rfl,hc⟩,RepC.one (.sc _ rfl) rfl⟩
      ·simp at hr
    | slice e =>
     simp only [DataW.trod,hu] at hr ⊢
     simp only [Bool.and_eq_true,decide_eq_true_eq] at hp
     match cs,hr with
     | [.slice none 0 0],hr=>exact ⟨_,⟨[],rfl,⟨by simp,by simp⟩,by simp⟩,RepC.one (.nosl _ _ _ _ (by simp)) rfl⟩
     | [.slice (some a) len cap],hr =>
      simp only at hr
      split at hr
      ·rename_i hc
       cases hm:(List.range len).mapM (fun i=>(w.cells? 0 (a.add (i*P.cellsOf e)) (P.cellsOf e)).bind (DataW.trod enc P w 0 sp held fuel e)) with
       | none=>simp [hm] at hr
       | some elems =>
        obtain ⟨hll,_⟩:=q9u hm
        have hlen:len≤maxLen:=Nat.le_trans hc.2.1 hc.2.2
        have hze:∃ rest,z.1=.slice (elems.map (·.1)) rest:=by
         rw [hm] at hr
         simp only [Option.bind_some,Option.map_eq_some_iff] at hr
         obtain ⟨rest,_,rfl⟩:=hr
         exact ⟨_,rfl⟩
        obtain ⟨rest,hze⟩:=hze
        have hbytes:len*P.bytesOf e≤reachBytes:=by
         have:=hz ((((elems.map (·.1)).length+rest.length)*P.bytesOf e)) (by rw [hze]; simp [DataW.weights,hu])
         refine Nat.le_trans (Nat.mul_le_mul_right _ ?_) this
         rw [List.length_map,hll,List.length_range]; omega
        have hel:∀ i,i < len→∃ b,(w.cells? 0 (a.add (i*P.cellsOf e)) (P.cellsOf e)).bind (DataW.trod enc P w 0 sp held fuel e)=some b∧∀ n∈b.1.weights P e,n≤reachBytes:=by
         intro i hi
         obtain ⟨b,hb,hfb⟩:=q3p hm i i (by simp [hi])
         refine ⟨b,hfb,fun n hn=>hz n ?_⟩
         rw [hze]
         simp only [DataW.weights,hu,List.mem_cons,List.mem_append]
         exact .inr (.inl (q5B (List.mem_map_of_mem (List.mem_of_getElem? hb)) hn))
        by_cases h0:len=0
        ·subst h0
         exact ⟨_,⟨[],rfl,⟨by simp,by simp⟩,by simp⟩,RepC.one (.nosl _ _ _ _ (by simp)) rfl⟩
        ·have hex:∀ i,∃ x:T,i < len→fitV P (FitC P d) e x∧∃ vs,RepC (lowD w) w vs x.cells∧w.cells? 0 (a.add (i*P.cellsOf e)) (P.cellsOf e)=some vs:=by
          intro i
          by_cases hi:i < len
          ·obtain ⟨b,hb,hbz⟩:=hel i hi
           cases hv:w.cells? 0 (a.add (i*P.cellsOf e)) (P.cellsOf e) with
           | none=>simp [hv] at hb
           | some vs =>
            simp [hv] at hb
            obtain ⟨ts,h1,h2⟩:=ih hp.2 hb hbz
            have hpe:=hp.2
            cases d with
            | zero=>simp [plainT] at hpe
            | succ d =>
             simp only [plainT] at hpe
             cases hue:P.underlying e with
             | none=>rw [hue] at hpe; simp at hpe
             | some ue =>
              have ha:=q5A hue
              cases hia:isAggD ue with
              | true =>
               rw [hia] at ha
               exact ⟨.agg ts,fun _=>⟨by unfold fitV; rw [ha]; exact ⟨ts,rfl,h1⟩,vs,h2,rfl⟩⟩
              | false =>
               rw [hia] at ha
               have hone:∃ x,ts=[x]∧T.cells x=[x]:=by
                simp only [FitC,hue] at h1
                cases ue with
                | bool=>obtain ⟨b,rfl⟩:=h1; exact ⟨_,rfl,rfl⟩
                | int k=>obtain ⟨b,rfl,_⟩:=h1; exact ⟨_,rfl,rfl⟩
                | string=>obtain ⟨b,rfl,_⟩:=h1; exact ⟨_,rfl,rfl⟩
                | slice e2=>obtain ⟨b,rfl,_⟩:=h1; exact ⟨_,rfl,rfl⟩
                | struct fs=>simp [isAggD] at hia
                | array n e2=>simp [isAggD] at hia
                | _=>exact h1.elim
               obtain ⟨x,rfl,hx⟩:=hone
               exact ⟨x,fun _=>⟨by unfold fitV; rw [ha]; exact h1,vs,by rw [hx]; exact h2,rfl⟩⟩
          ·exact ⟨.sc undef,fun h=>absurd h hi⟩
         obtain ⟨g,hg⟩:=Classical.axiomOfChoice hex
         have hk:=hp.1
         have hspot:a.spot=none:=by
          obtain ⟨_,vs,h2,h3⟩:=hg 0 (by omega)
          obtain ⟨h4,h5⟩:=q3o h3
          have:=h5 0 (vs[0]'(by omega)) (by simp)
          have e:(a.add (0*P.cellsOf e)).add 0=a:=by simp [Addr.add]
          rw [e] at this
          exact (q5y this).2
         have hcell:∀ i j,i < len→j < P.cellsOf e→∃ v x,w.cell? ⟨a.block,a.off+(i*P.cellsOf e+j),none⟩=some v∧(g i).cells[j]? = some x∧RepT (lowD w) w v x∧okCell v=true:=by
          intro i j hi hj
          obtain ⟨_,vs,h2,h3⟩:=hg i hi
          obtain ⟨h4,h5⟩:=q3o h3
          have hjv:j < vs.length:=by omega
          have h6:=h5 j vs[j] (by simp)
          rw [q5z hspot,q5z rfl] at h6
          have hjx:j < (g i).cells.length:=by rw [← h2.1]; exact hjv
          have h7:=h2.2 j vs[j] (g i).cells[j] (by simp) (by simp)
          refine ⟨vs[j],(g i).cells[j],?_,by simp,h7.1,h7.2⟩
          rw [← h6]
          simp [Nat.add_assoc]
         have hlt:a.block < w.heap.size:=by
          obtain ⟨v,x,h1,_⟩:=hcell 0 0 (by omega) hk
          exact (q5y h1).1
         have hgl:∀ i,i < len→(g i).cells.length=P.cellsOf e:=by
          intro i hi
          obtain ⟨_,vs,h2,h3⟩:=hg i hi
          rw [← h2.1]
          exact (q3o h3).1
         refine ⟨_,⟨(List.range len).map g,rfl,⟨by simpa using hlen,by simpa using hbytes⟩,fun x hx=>?_⟩,RepC.one ?_ rfl⟩
         ·simp only [List.mem_map,List.mem_range] at hx
          obtain ⟨i,hi,rfl⟩:=hx
          exact (hg i hi).1
         ·obtain ⟨ab,ao,asp⟩:=a
          simp only at hspot hcell hlt
          subst hspot
          have hxs:∀ (i:Nat) x,((List.range len).map g)[i]? = some x→i < len∧x=g i:=by
           intro i x hx
           rw [List.getElem?_map,Option.map_eq_some_iff] at hx
           obtain ⟨y,hy,rfl⟩:=hx
           have hi:i < len:=by
            have:=(List.getElem?_eq_some_iff.1 hy).1
            simpa using this
           rw [List.getElem?_range hi] at hy
           cases hy
           exact ⟨hi,rfl⟩
          refine .sl ab ao len cap false (P.cellsOf e) _ hlt (by simp) hc.2.1 (by simp) (fun i x hx=>?_) (fun j=>(w.cell? ⟨ab,ao+j,none⟩).getD undef) (fun j hj=>?_) (fun i x j t hx ht=>?_)
          ·obtain ⟨hi,rfl⟩:=hxs i x hx
           exact hgl i hi
          ·have hd1:j / P.cellsOf e < len:=Nat.div_lt_of_lt_mul (by rw [Nat.mul_comm]; exact hj)
           have hd2:j % P.cellsOf e < P.cellsOf e:=Nat.mod_lt _ hk
           obtain ⟨v,x,h1,_,_,h4⟩:=hcell _ _ hd1 hd2
           have hdm:j / P.cellsOf e*P.cellsOf e+j % P.cellsOf e=j:=Nat.div_add_mod' j (P.cellsOf e)
           rw [hdm] at h1
           rw [h1]
           exact ⟨rfl,h4⟩
          ·obtain ⟨hi,rfl⟩:=hxs i x hx
           have hj:j < P.cellsOf e:=by rw [← hgl i hi]; exact (List.getElem?_eq_some_iff.1 ht).1
           obtain ⟨v,y,h1,h2,h3,_⟩:=hcell i j hi hj
           rw [ht] at h2
           cases h2
           simp only [h1,Option.getD_some]
           exact h3
      ·simp at hr
    | struct fs =>
     simp only [DataW.trod,hu] at hr ⊢
     simp only [Bool.and_eq_true,List.all_eq_true] at hp
     split at hr
     ·rename_i hlen
      cases hm:fs.toList.mapM (fun f=>DataW.trod enc P w 0 sp held fuel f.type ((cs.drop f.offset).take (P.cellsOf f.type))) with
      | none=>simp [hm] at hr
      | some xs =>
       rw [hm] at hr
       simp only [Option.map_some,Option.some.injEq] at hr
       obtain ⟨ts,h1,h2⟩:=q9w (P:=P) (D:=lowD w) (w:=w) (F:=FitC P d) hlen fs.toList 0 hp.1 (fun f hf=>by
        obtain ⟨j,hj⟩:=List.mem_iff_getElem?.1 hf
        obtain ⟨b,hb,hfb⟩:=q3p hm j f hj
        refine ih (hp.2 f hf) hfb (fun n hn=>hz n ?_)
        rw [← hr]
        simp only [DataW.weights,hu]
        exact DataW.weights_mem_each (j:=j) (by simp [hj]) (by simp [hb]) n hn)
       refine ⟨ts,⟨by rw [← hlen,← h1.1]; rfl,fun f hf=>by simpa using h2 f hf⟩,h1⟩
     ·simp at hr
    | array n e =>
     simp only [DataW.trod,hu] at hr ⊢
     simp only [Bool.and_eq_true,beq_iff_eq] at hp
     split at hr
     ·rename_i hlen
      cases hm:(List.range n).mapM (fun i=>DataW.trod enc P w 0 sp held fuel e ((cs.drop (i*P.cellsOf e)).take (P.cellsOf e))) with
      | none=>simp [hm] at hr
      | some xs =>
       rw [hm] at hr
       simp only [Option.map_some,Option.some.injEq] at hr
       obtain ⟨ts,h1,h2⟩:=q9v (D:=lowD w) (w:=w) (k:=P.cellsOf e) (F:=FitC P d e) (cs:=cs) n (by omega) (fun i hi=>by
        obtain ⟨b,hb,hfb⟩:=q3p hm i i (by simp [hi])
        refine ih hp.2 hfb (fun n hn=>hz n ?_)
        rw [← hr]
        simp only [DataW.weights,hu]
        exact q5B (List.mem_map_of_mem (List.mem_of_getElem? hb)) hn)
       have hall:cs.take (n*P.cellsOf e)=cs:=List.take_of_length_le (by omega)
       rw [hall] at h1
       exact ⟨ts,⟨by rw [← hlen,← h1.1],h2⟩,h1⟩
     ·simp at hr
    | _=>simp at hp
theorem q9y {H:Type} {enc:TypeId × Value→H} {w:World} {sp:Nat→Bool} {held:Bool} {d:Nat} {t:TypeId} {v:Value} {x:DataW H} {ps:List MemPlace} {base:Nat} (hp:plainT P d t=true)
  (hok:Value.okWide P w .any base t v) (hr:DataW.Trod enc P w 0 sp held t v x ps) (hz:∀ n∈x.weights P t,n≤reachBytes):∃ y,fitV P (FitC P d) t y∧RepT (lowD w) w v y:=by
 obtain ⟨fuel,hr⟩:=hr
 obtain ⟨ts,h1,h2⟩:=q9x d hp hr hz
 cases d with
 | zero=>simp [plainT] at hp
 | succ d =>
  cases hu:P.underlying t with
  | none=>simp only [plainT,hu] at hp; simp at hp
  | some u =>
   have ha:=q5A hu
   cases hia:isAggD u with
   | true =>
    rw [hia] at ha
    have hagg:∃ cs,v=.agg cs:=by
     unfold Value.okWide at hok
     rw [hu] at hok
     cases u with
     | struct fs=>obtain ⟨cs,h,_⟩:=hok; exact ⟨cs,h⟩
     | array n e=>obtain ⟨cs,h,_⟩:=hok; exact ⟨cs,h⟩
     | _=>simp [isAggD] at hia
    obtain ⟨cs,rfl⟩:=hagg
    refine ⟨.agg ts,by unfold fitV; rw [ha]; exact ⟨ts,rfl,h1⟩,.agg cs ts (by have:=h2.1; simpa [Value.cells] using this) (fun i v x hv hx=>(h2.2 i v x (by simpa [Value.cells] using hv) hx).1)⟩
   | false =>
    rw [hia] at ha
    have hone:∃ y,ts=[y]:=by
     simp only [FitC,hu] at h1
     cases u with
     | bool=>obtain ⟨b,rfl⟩:=h1; exact ⟨_,rfl⟩
     | int k=>obtain ⟨b,rfl,_⟩:=h1; exact ⟨_,rfl⟩
     | string=>obtain ⟨b,rfl,_⟩:=h1; exact ⟨_,rfl⟩
     | slice e2=>obtain ⟨b,rfl,_⟩:=h1; exact ⟨_,rfl⟩
     | struct fs=>simp [isAggD] at hia
     | array n e2=>simp [isAggD] at hia
     | _=>exact h1.elim
    obtain ⟨y,rfl⟩:=hone
    refine ⟨y,by unfold fitV; rw [ha]; exact h1,?_⟩
    have hna:v.cells = #[v]:=by
     have hcl:v.cells.size=1:=by have:=h2.1; simpa using this
     cases v with
     | agg cs =>
      exfalso
      simp only [Value.cells] at h2 hcl
      unfold Value.okWide at hok
      rw [hu] at hok
      cases u <;> simp [isAggD] at hia <;> simp [Cell.okWide,Cell.ok,hu] at hok
     | _=>rfl
    rw [hna] at h2
    exact (h2.2 0 v y rfl rfl).1
theorem q9z {H:Type} {enc:TypeId × Value→H} {w:World} {sp:Nat→Bool} {held:Bool} {d base:Nat}:∀ {ts:List TypeId} {vs:List Value} {ds:List (DataW H)} {ps:List MemPlace},(∀ t∈ts,plainT P d t=true) →
  (∀ (j:Nat) t v,ts[j]? = some t→vs[j]? = some v→Value.okWide P w .any base t v)→DataW.TrodAll enc P w 0 sp held ts vs ds ps→(∀ n∈DataW.weightsEach P ts ds,n≤reachBytes)→∃ xs,FitAll P d ts xs∧vs.length=xs.length∧∀ (i:Nat) v x,vs[i]? = some v→xs[i]? = some x→RepT (lowD w) w v x:=by
 intro ts
 induction ts with
 | nil =>
  intro vs ds ps _ _ h _
  match vs,ds,h with
  | [],[],_=>exact ⟨[],trivial,rfl,by simp⟩
 | cons t ts ih =>
  intro vs ds ps hp hok h hz
  match vs,ds,h with
  | v::vs,x::ds,h =>
   obtain ⟨p,q,h1,h2,_⟩:=h
   simp only [DataW.weightsEach,List.mem_append] at hz
   obtain ⟨y,h3,h4⟩:=q9y (hp t (by simp)) (hok 0 t v rfl rfl) h1 (fun n hn=>hz n (.inl hn))
   obtain ⟨xs,h5,h6,h7⟩:=ih (fun u hu=>hp u (by simp [hu])) (fun j u z hu hz=>hok (j+1) u z (by simpa using hu) (by simpa using hz)) h2 (fun n hn=>hz n (.inr hn))
   refine ⟨y::xs,⟨h3,h5⟩,by simp [h6],fun i u z hu hz=>?_⟩
   cases i with
   | zero=>simp at hu hz; subst hu; subst hz; exact h4
   | succ i=>exact h7 i u z (by simpa using hu) (by simpa using hz)
theorem KeptW.sameAt {w w':World} (hk:KeptW w w') {p:MemPlace} (hp:p.block < w.heap.size):w.sameAt w' p:=by
 cases p with
 | cell b o=>exact World.cell?_of_block (w:=w) (hk.old b hp)
 | map b=>exact hk.old b hp
theorem q9A {H:Type} {enc:TypeId × Value→H} {w w':World} (hl:laidOutB P=true) (hk:KeptW w w') {sp:Nat→Bool}:∀ {ts:List TypeId} {vs:List Value} {ds:List (DataW H)} {ps:List MemPlace},
  (∀ t∈ts,P.readableRec t=true∧t < P.types.size)→DataW.TrodAll enc P w 0 (fun _=>true) true ts vs ds ps→(∀ p∈ps,p.block < w.heap.size)→(∀ p∈ps,sp p.block=true)→DataW.TrodAll enc P w' 0 sp true ts vs ds ps:=by
 intro ts
 induction ts with
 | nil=>intro vs ds ps _ h _ _; match vs,ds,h with|[],[],h=>exact h
 | cons t ts ih =>
  intro vs ds ps hp h hlt hsp
  match vs,ds,h with
  | v::vs,x::ds,h =>
   obtain ⟨p,q,h1,h2,rfl⟩:=h
   refine ⟨p,q,?_,ih (fun u hu=>hp u (by simp [hu])) h2 (fun x hx=>hlt x (by simp [hx])) (fun x hx=>hsp x (by simp [hx])),rfl⟩
   exact WideElems.Trod_stays hl (hp t (by simp)).1 (hp t (by simp)).2 h1 (fun x hx=>hk.sameAt (hlt x (by simp [hx]))) (fun x hx=>hsp x (by simp [hx]))
theorem q9B {H:Type} {enc:TypeId × Value→H} (hS:Sound P pol) (hl:laidOutB P=true) {f:FuncId} {fn:Func} {s:ChangeSpec} {apart fresh handsOn again:Bool} {d:Nat} {tb:TypeId}
  (hpar:fn.params.toList.all (fun t=>plainT P d t && P.readableRec t && decide (t < P.types.size))=true) (hrt:fn.resultTypes = #[tb]) (htb:P.underlying tb=some .bool) (hvars:s.vars=[])
  (hspec:∀ ds:List (DataW H),ds.length=fn.params.size→s.fn H ds={ results:=[.lit (.bool true)],args:=ds })
  (hlaw:∀ xs,FitAll P d fn.params.toList xs→ans P pol f xs=some (.sc (.bool true)))
  {W:World} {base:Nat} {args:Array Value} {ds gs:List (DataW H)} {before:List MemPlace} (hval:∀ (j:Nat) t v,fn.params[j]? = some t→args[j]? = some v→Value.okWide P W .any base t v)
  (hW:DataW.Whole enc P fn.params.toList s.vars apart W args.toList ds gs before) (hwt:(DataW.weightsEach P (fn.params.toList++s.plain.varTypes P) (ds++gs)).all (· ≤ reachBytes)=true) (hgl:GlobOk pol (lowD W) W) :
  Calls P f args W fun e W'=>∃ v,e=.returned v∧s.post enc P fn apart fresh handsOn again W args v W':=by
 simp only [List.all_eq_true,Bool.and_eq_true,decide_eq_true_eq] at hpar
 have hW':=hW
 obtain ⟨p,q,hA,hV,rfl,hfz,hnd⟩:=hW
 rw [hvars] at hV
 have hq:gs=[]∧q=[]:=by
  match gs,hV with
  | [],hV=>exact ⟨rfl,hV⟩
 obtain ⟨rfl,rfl⟩:=hq
 have hlen:ds.length=fn.params.size:=by
  have key:∀ {ts:List TypeId} {vs:List Value} {ds:List (DataW H)} {ps:List MemPlace},DataW.TrodAll enc P W 0 (fun _=>true) true ts vs ds ps→ds.length=ts.length:=by
   intro ts
   induction ts with
   | nil=>intro vs ds ps h; match vs,ds,h with|[],[],_=>rfl
   | cons t ts ih=>intro vs ds ps h; match vs,ds,h with|v::vs,x::ds,h=>obtain ⟨_,_,_,h,_⟩:=h; simp [ih h]
  simpa using key hA
 have hwe:∀ n∈DataW.weightsEach P fn.params.toList ds,n≤reachBytes:=by
  have key:∀ (ts us:List TypeId) (ds:List (DataW H)),ds.length=ts.length→DataW.weightsEach P (ts++us) (ds++[])=DataW.weightsEach P ts ds:=by
   intro ts
   induction ts with
   | nil=>intro us ds h; (have:ds=[]:=List.eq_nil_of_length_eq_zero h); subst this; cases us <;> rfl
   | cons t ts ih=>intro us ds h; match ds,h with|d::ds,h=>simp only [List.cons_append,DataW.weightsEach,ih us ds (by simpa using h)]
  rw [key _ _ _ (by simpa using hlen),List.all_eq_true] at hwt
  intro n hn
  simpa using hwt n hn
 obtain ⟨xs,h1,h2,h3⟩:=q9z (d:=d) (fun t ht=>(hpar t ht).1.1) (fun j t v ht hv=>hval j t v (by simpa using ht) (by simpa using hv)) hA hwe
 have hsp:=hspec ds hlen
 obtain ⟨hc,hsim⟩:=q9r hS f xs _ (hlaw xs h1)
 have hcall:=hsim W (lowD W) args (fun b hb=>hb) hgl (by simpa using h2) (fun i v t hv ht=>h3 i v t (by simpa using hv) ht)
 refine (callsIn_wide.1 hcall).mono fun e W' he=>?_
 obtain ⟨v,rfl,hk,hv⟩:=he
 obtain ⟨rfl,_⟩:=hv.sc_eq
 have hlt:∀ p'∈p++([]:List MemPlace),p'.block < W.heap.size:=fun x hx=>hW'.lt x hx
 have hlt':∀ p'∈p,p'.block < W.heap.size:=fun x hx=>hlt x (by simp [hx])
 have hold:∀ sp:Nat→Bool,(∀ x∈p,sp x.block=true)→DataW.TrodAll enc P W' 0 sp true fn.params.toList args.toList ds p:=fun sp hs=>q9A hl hk (fun t ht=>⟨(hpar t ht).1.2,(hpar t ht).2⟩) hA hlt' hs
 have hres:∀ (b:Nat) (sp:Nat→Bool) (hd:Bool),DataW.TrodAll enc P W' b sp hd fn.resultTypes.toList ((Value.bool true).resultList fn.resultTypes.size) [.lit (.bool true)] []:=by
  intro b sp hd
  rw [hrt]
  refine ⟨[],[],⟨1,?_⟩,rfl,rfl⟩
  simp [DataW.trod,htb,Value.cells]
 refine ⟨_,rfl,ds,[],p++[],[],p,[],hW',?_,?_,?_,?_,fun _=>?_⟩
 ·simp only [List.append_nil,hsp]; exact hres _ _ _
 ·simp only [List.append_nil,hsp]; exact hold _ (fun x hx=>by simpa using hlt' x hx)
 ·simp only [List.append_nil,hsp,hvars]; rfl
 ·refine ⟨hk.os,hk.out,fun i hi=>?_⟩
  rw [hk.old i hi]
  split <;> simp_all
 ·refine ⟨?_,.lit (.bool true)::ds,[],p,⟨p,[],?_,?_,by simp,?_,?_⟩,?_⟩
  ·exact ok_one hrt rfl (by unfold Value.okWide; rw [htb]; simp [Cell.okWide,Cell.ok,htb])
  ·have:=trodAll_append (hold (fun _=>true) (fun _ _=>rfl)) (hres 0 (fun _=>true) true)
   simpa using this
  ·rw [hvars]; rfl
  ·intro b off hin
   have:=hfz b off (by simp [hin])
   rw [World.frozen?_of_block (w:=W) (hk.old b (hlt' _ hin))]
   exact this
  ·intro ha
   have:=hnd ha
   simpa using this
  ·intro x hx _
   simpa using hx
theorem q9C {H:Type} {enc:TypeId × Value→H} (hS:Sound P pol) (hglob:∀ g,pol.glob g=none) (hl:laidOutB P=true) {f:FuncId} {fn:Func} {s:ChangeSpec} {apart fresh handsOn again:Bool} {d:Nat} {tb:TypeId}
  (hpar:fn.params.toList.all (fun t=>plainT P d t && P.readableRec t && decide (t < P.types.size))=true) (hrt:fn.resultTypes = #[tb]) (htb:P.underlying tb=some .bool) (hvars:s.vars=[])
  (hspec:∀ ds:List (DataW H),ds.length=fn.params.size→s.fn H ds={ results:=[.lit (.bool true)],args:=ds })
  (hlaw:∀ xs,FitAll P d fn.params.toList xs→ans P pol f xs=some (.sc (.bool true)))
  {W:World} {base:Nat} {args:Array Value} {ds gs:List (DataW H)} {before:List MemPlace} (hval:∀ (j:Nat) t v,fn.params[j]? = some t→args[j]? = some v→Value.okWide P W .any base t v)
  (hW:DataW.Whole enc P fn.params.toList s.vars apart W args.toList ds gs before) (hwt:(DataW.weightsEach P (fn.params.toList++s.plain.varTypes P) (ds++gs)).all (· ≤ reachBytes)=true) :
  Calls P f args W fun e W'=>∃ v,e=.returned v∧s.post enc P fn apart fresh handsOn again W args v W':=
 q9B hS hl hpar hrt htb hvars hspec hlaw hval hW hwt ⟨fun g x hx=>(by rw [hglob] at hx; cases hx),fun g ts hx=>(by rw [hglob] at hx; cases hx)⟩
end Go.Abs
/- Small facts on the integers of the model. -/
namespace Go.Abs
open Go
theorem q00 {x:Int} (h1:-9223372036854775808≤x) (h2:x < 9223372036854775808):IntKind.i64.wrap x=x:=by
 have e:IntKind.i64.wrap x=if x % 18446744073709551616 ≥ 9223372036854775808 then x % 18446744073709551616 - 18446744073709551616 else x % 18446744073709551616:=by simp [IntKind.wrap,IntKind.bits,IntKind.signed]
 rw [e]
 split <;> omega
theorem wrap_u64 {x:Int}:IntKind.u64.wrap x=x % 18446744073709551616:=by
 simp [IntKind.wrap,IntKind.bits,IntKind.signed]
theorem q3q {x:Int}:IntKind.u8.wrap x=x % 256:=by
 simp [IntKind.wrap,IntKind.bits,IntKind.signed]
theorem wf_u8 {n:Int} (h:(Lit.int .u8 n).wf=true):0≤n∧n < 256:=by
 simp [Lit.wf,IntKind.min,IntKind.max,IntKind.bits,IntKind.signed] at h; omega
end Go.Abs
/- The trees of a type,leaf by leaf. -/
namespace Go.Abs
open Go
variable {P:Program}
def FitE (P:Program) (t:TypeId) (x:T):Prop:=∃ d,fitV P (FitC P d) t x
inductive Leaf where
 | bool
 | int (k:IntKind)
 | str
 | sl (size:Nat) (e:TypeId)
 deriving DecidableEq
def LeafOk (P:Program):Leaf→T→Prop
 | .bool,x=>∃ b,x=.sc (.bool b)
 | .int k,x=>∃ n,x=.sc (.int k n)∧(Lit.int k n).wf=true
 | .str,x=>∃ s,x=.sc (.string s)∧s.size≤maxLen
 | .sl size e,x=>∃ xs,x=.sl false size xs∧(xs.length≤maxLen∧xs.length*P.bytesOf e≤reachBytes)∧∀ y∈xs,FitE P e y
def LeafsOk (P:Program):List Leaf→List T→Prop
 | [],[]=>True
 | l::ls,c::cs=>LeafOk P l c∧LeafsOk P ls cs
 | _,_=>False
theorem q3r {cs:List T} (h:LeafsOk P [] cs):cs=[]:=by
 cases cs with
 | nil=>rfl
 | cons c cs=>exact h.elim
theorem q0P {l:Leaf} {ls:List Leaf} {cs:List T} (h:LeafsOk P (l::ls) cs):∃ c r,cs=c::r∧LeafOk P l c∧LeafsOk P ls r:=by
 cases cs with
 | nil=>exact h.elim
 | cons c cs=>exact ⟨c,cs,rfl,h.1,h.2⟩
theorem q5C {a b:List Leaf} {xs ys:List T} (h1:LeafsOk P a xs) (h2:LeafsOk P b ys):LeafsOk P (a++b) (xs++ys):=by
 induction a generalizing xs with
 | nil=>rw [q3r h1]; exact h2
 | cons l a ih=>obtain ⟨c,r,rfl,h3,h4⟩:=q0P h1; exact ⟨h3,ih h4⟩
def leavesOf (P:Program):Nat→TypeId→Option (List Leaf)
 | 0,_=>none
 | d+1,t =>
  match P.underlying t with
  | some .bool=>some [.bool]
  | some (.int k)=>some [.int k]
  | some .string=>some [.str]
  | some (.slice e)=>some [.sl (P.cellsOf e) e]
  | some (.struct fs)=>if laidAt P (P.cellsOf t) 0 fs.toList then (fs.toList.mapM fun f=>leavesOf P d f.type).map List.flatten else none
  | some (.array n e)=>if P.cellsOf t=n*P.cellsOf e then (leavesOf P d e).map fun l=>(List.replicate n l).flatten else none
  | _=>none
theorem q9D {fs:List Field} {g:TypeId→Option (List Leaf)} {ls:List (List Leaf)} {total:Nat}:∀ {off:Nat} {cs:List T},laidAt P total off fs=true→off+cs.length=total→(fs.mapM fun f=>g f.type)=some ls →
  (∀ f∈fs,∀ l,g f.type=some l→LeafsOk P l ((cs.drop (f.offset - off)).take (P.cellsOf f.type)))→LeafsOk P ls.flatten cs:=by
 induction fs generalizing ls with
 | nil =>
  intro off cs h hl hm _
  simp [laidAt] at h
  simp at hm
  subst hm
  have:cs=[]:=List.eq_nil_of_length_eq_zero (by omega)
  subst this
  trivial
 | cons f fs ih =>
  intro off cs h hl hm hf
  simp only [laidAt,Bool.and_eq_true,beq_iff_eq] at h
  obtain ⟨e,hr⟩:=h
  have hle:=q5w hr
  rw [List.mapM_cons] at hm
  cases hg:g f.type with
  | none=>simp [hg] at hm
  | some l =>
   cases hrest:fs.mapM (fun f=>g f.type) with
   | none=>simp [hg,hrest] at hm
   | some ls' =>
    simp [hg,hrest] at hm
    subst hm
    have h1:=hf f (by simp) l hg
    rw [e,Nat.sub_self,List.drop_zero] at h1
    have hsplit:cs=cs.take (P.cellsOf f.type)++cs.drop (P.cellsOf f.type):=(List.take_append_drop _ _).symm
    rw [hsplit,List.flatten_cons]
    refine q5C h1 (ih hr (by simp; omega) hrest fun g' hg' l' hl'=>?_)
    have:=hf g' (by simp [hg']) l' hl'
    have hge:=q5x hr g' hg'
    rw [List.drop_drop]
    have e2:P.cellsOf f.type+(g'.offset - (off+P.cellsOf f.type))=g'.offset - off:=by omega
    rw [e2]
    exact this
theorem q5D:∀ (d d':Nat) {t:TypeId} {ls:List Leaf} {cs:List T},leavesOf P d t=some ls→FitC P d' t cs→LeafsOk P ls cs:=by
 intro d
 induction d with
 | zero=>intro d' t ls cs h; simp [leavesOf] at h
 | succ d ih =>
  intro d' t ls cs h hf
  cases d' with
  | zero=>exact hf.elim
  | succ d' =>
   simp only [leavesOf] at h
   simp only [FitC] at hf
   cases hu:P.underlying t with
   | none=>simp [hu] at h
   | some u =>
    simp only [hu] at h hf
    cases u with
    | bool=>simp at h; subst h; obtain ⟨b,rfl⟩:=hf; exact ⟨⟨b,rfl⟩,trivial⟩
    | int k=>simp at h; subst h; obtain ⟨n,rfl,hw⟩:=hf; exact ⟨⟨n,rfl,hw⟩,trivial⟩
    | string=>simp at h; subst h; obtain ⟨s,rfl,hw⟩:=hf; exact ⟨⟨s,rfl,hw⟩,trivial⟩
    | slice e=>simp at h; subst h; obtain ⟨xs,rfl,hw,hx⟩:=hf; exact ⟨⟨xs,rfl,hw,fun y hy=>⟨d',hx y hy⟩⟩,trivial⟩
    | struct fs =>
     simp only at h hf
     split at h
     ·rename_i hl
      cases hm:fs.toList.mapM (fun f=>leavesOf P d f.type) with
      | none=>simp [hm] at h
      | some l =>
       simp [hm] at h
       subst h
       exact q9D (g:=leavesOf P d) (off:=0) hl (by omega) hm fun f hfm l hl'=>ih d' hl' (by simpa using hf.2 f hfm)
     ·simp at h
    | array n e =>
     simp only at h hf
     split at h
     ·rename_i hl
      cases hm:leavesOf P d e with
      | none=>simp [hm] at h
      | some l =>
       simp [hm] at h
       subst h
       have key:∀ (n:Nat) (cs:List T),cs.length=n*P.cellsOf e→(∀ i,i < n→FitC P d' e ((cs.drop (i*P.cellsOf e)).take (P.cellsOf e)))→LeafsOk P (List.replicate n l).flatten cs:=by
        intro n
        induction n with
        | zero=>intro cs hc _; have:cs=[]:=List.eq_nil_of_length_eq_zero (by omega)
                subst this; trivial
        | succ n ihn =>
         intro cs hc hw
         rw [Nat.succ_mul] at hc
         have hsplit:cs=cs.take (P.cellsOf e)++cs.drop (P.cellsOf e):=(List.take_append_drop _ _).symm
         rw [hsplit,List.replicate_succ,List.flatten_cons]
         refine q5C (ih d' hm (by simpa using hw 0 (by omega))) (ihn _ (by simp; omega) fun i hi=>?_)
         have:=hw (i+1) (by omega)
         rw [List.drop_drop]
         rw [Nat.succ_mul,Nat.add_comm] at this
         exact this
       exact key n cs (by omega) hf.2
     ·simp at h
    | _=>simp at h
theorem q5E {t:TypeId} {x:T} {ls:List Leaf} (ha:aggB P t=some true) (hl:leavesOf P 20 t=some ls) (h:FitE P t x):∃ cs,x=.agg cs∧LeafsOk P ls cs:=by
 obtain ⟨d,h⟩:=h
 unfold fitV at h
 rw [ha] at h
 obtain ⟨cs,rfl,hc⟩:=h
 exact ⟨cs,rfl,q5D 20 d hl hc⟩
theorem q1X {t:TypeId} {x:T} {l:Leaf} (ha:aggB P t=some false) (hl:leavesOf P 20 t=some [l]) (h:FitE P t x):LeafOk P l x:=by
 obtain ⟨d,h⟩:=h
 unfold fitV at h
 rw [ha] at h
 exact (q5D 20 d hl h).1
theorem q9E {d:Nat} {xs:List T} (h:FitAll P d [] xs):xs=[]:=by
 cases xs with
 | nil=>rfl
 | cons x xs=>exact h.elim
theorem q1Y {d:Nat} {t:TypeId} {ts:List TypeId} {xs:List T} (h:FitAll P d (t::ts) xs):∃ x r,xs=x::r∧FitE P t x∧FitAll P d ts r:=by
 cases xs with
 | nil=>exact h.elim
 | cons x xs=>exact ⟨x,xs,rfl,⟨d,h.1⟩,h.2⟩
end Go.Abs
/- Code with all that hangs on the program's tables alone worked out ahead; what such code comes to,said of states; and that the evaluator comes to the same. -/
namespace Go.Abs
open Go
inductive Src where
 | v (t:Nat)
 | c (x:T)
 | d
 deriving Inhabited
abbrev FEnv:=Nat→AV
def Src.get (e:FEnv):Src→AV
 | .v t=>e t
 | .c x=>.t x
 | .d=>.dead
def upd (e:FEnv) (d:Option Tmp) (v:AV):FEnv :=
 match d with
 | some t=>fun s=>if s=t then v else e s
 | none=>e
inductive IOp where
 | mv (x:Src)
 | gmv (size:Nat) (x:Src)
 | pk (c a b:Src)
 | nw (k:Nat) (z:T)
 | nwG (size:Nat)
 | bx (m:Bool) (x:Src)
 | bd (cs:List T) (parts:List (Nat × Nat × Src))
 | bs (m:Bool) (size:Nat) (z:T) (len:Nat) (parts:List (Nat × Src))
 | ld (agg:Bool) (n:Nat) (a:Src)
 | st (n:Nat) (a x:Src)
 | nc (x:Src)
 | bin (op:BinOp) (bl:Bool) (x y:Src)
 | nt (x:Src)
 | ng (x:Src)
 | cv (k:IntKind) (x:Src)
 | fn (g:FuncId) (first captured:List Src)
 | sl (size:Nat) (x:Src) (lo hi mx:Option Src)
 | fa (off:Nat) (x:Src)
 | fd (agg:Bool) (n off:Nat) (x:Src)
 | iaS (size:Nat) (x i:Src)
 | iaA (len size:Nat) (x i:Src)
 | ixA (agg:Bool) (n len size:Nat) (x i:Src)
 | ex (x:Src) (i:Nat)
 | lenS (x:Src)
 | app (size bytes:Nat) (s x:Src)
 | mnx (mx:Bool) (x y:Src)
 | call (g:Src) (args:List Src)
 | raw (o:Oper)
 deriving Inhabited
def i64 (n:Int):AV:=.t (.sc (.int .i64 n))
def bo (b:Bool):AV:=.t (.sc (.bool b))
def iBin (op:BinOp) (bl:Bool):AV→AV→Option AV
 | .t (.sc (.int k a)),.t (.sc (.int k' b)) =>
  match op with
  | .shl=>if b < 0 then none else some (.t (.sc (.int k (k.wrap (a*2 ^ (min b.toNat k.bits))))))
  | .shr=>if b < 0 then none else some (.t (.sc (.int k (a.fdiv (2 ^ (min b.toNat k.bits))))))
  | .add=>if k=k' then some (.t (.sc (.int k (k.wrap (a+b))))) else none
  | .sub=>if k=k' then some (.t (.sc (.int k (k.wrap (a - b))))) else none
  | .mul=>if k=k' then some (.t (.sc (.int k (k.wrap (a*b))))) else none
  | .quo=>if k=k' then (if b=0 then none else some (.t (.sc (.int k (k.wrap (a.tdiv b)))))) else none
  | .rem=>if k=k' then (if b=0 then none else some (.t (.sc (.int k (a.tmod b))))) else none
  | .and=>if k=k' then some (.t (.sc (.int k (k.wrap (BitVec.ofInt k.bits a &&& BitVec.ofInt k.bits b).toNat)))) else none
  | .or=>if k=k' then some (.t (.sc (.int k (k.wrap (BitVec.ofInt k.bits a ||| BitVec.ofInt k.bits b).toNat)))) else none
  | .xor=>if k=k' then some (.t (.sc (.int k (k.wrap (BitVec.ofInt k.bits a ^^^ BitVec.ofInt k.bits b).toNat)))) else none
  | .andNot=>if k=k' then some (.t (.sc (.int k (k.wrap (BitVec.ofInt k.bits a &&& ~~~ BitVec.ofInt k.bits b).toNat)))) else none
  | .eql=>if k=k' then some (bo (decide (a=b))) else none
  | .neq=>if k=k' then some (bo (decide (a≠b))) else none
  | .lss=>if k=k' then some (bo (decide (a < b))) else none
  | .leq=>if k=k' then some (bo (decide (a≤b))) else none
  | .gtr=>if k=k' then some (bo (decide (b < a))) else none
  | .geq=>if k=k' then some (bo (decide (b≤a))) else none
 | .t (.sc (.bool a)),.t (.sc (.bool b)) =>
  if bl then (match op with
   | .eql=>some (bo (a == b))
   | .neq=>some (bo (a != b))
   | _=>none) else none
 | .t (.sc (.string a)),.t (.sc (.string b)) =>
  match op with
  | .eql=>some (bo (a.toList == b.toList))
  | .neq=>some (bo !(a.toList == b.toList))
  | .add=>if 9223372036854775807 < (a.size:Int)+(b.size:Int) then none else some (.t (.sc (.string (a++b))))
  | _=>none
 | _,_=>none
def takeR (agg:Bool) (n:Nat) (cs:List AV):Option AV:=if agg then (if n≤cs.length then some (mkAgg (cs.take n)) else none) else cs.head?
def takeRT (agg:Bool) (n:Nat) (cs:List T):Option T:=if agg then (if n≤cs.length then some (.agg (cs.take n)) else none) else cs.head?
def iLoad (agg:Bool) (n:Nat) (a:AV) (h:Heap):Option AV :=
 match a with
 | .t (.ip cs)=>match takeRT agg n cs with|some x=>some (.t x)|none=>none
 | .ref o e i off=>match rowAt h o e i with
  | some v=>takeR agg n (v.cells.drop off)
  | none=>none
 | _=>none
def iStore (size:Nat) (a v:AV) (h:Heap):Option Heap :=
 match a with
 | .ref o e i off =>
  match h[o]? with
  | some (.row k elems mr) =>
   if e=elems.length∧v.cells.length=size∧mr≤e then
    match elems[i]? with
    | some old =>
     if off+size≤k∧0 < size∧storableAll v.cells=true then some (h.set o (.row k (elems.set i (pack old.isAgg (splice old.cells off v.cells))) e)) else none
    | none=>none
   else none
  | _=>none
 | _=>none
def iFieldAddr (off:Nat):AV→Option AV
 | .t (.ip cs)=>some (.t (.ip (cs.drop off)))
 | .ref o e i k=>some (.ref o e i (k+off))
 | _=>none
def iIdxS (size:Nat) (x:AV) (j:Nat):Option AV :=
 match x with
 | .t (.sl _ k xs)=>match xs[j]? with
  | some v=>if k=size then some (.t (.ip v.cells)) else none
  | none=>none
 | .ms o e i len k _=>if j < len∧k=size then some (.ref o e (i+j) 0) else none
 | _=>none
def iIdxA (len size:Nat) (x:AV) (k:Nat):Option AV :=
 if k < len then (match x with
  | .t (.ip cs)=>some (.t (.ip (cs.drop (k*size))))
  | .ref o e i off=>some (.ref o e i (off+k*size))
  | _=>none) else none
def fillR (cells:List AV):List (Nat × Nat × AV)→Option (List AV)
 | []=>some cells
 | (off,size,v)::rest=>if v.cells.length=size∧0 < size∧off+size≤cells.length then fillR (splice cells off v.cells) rest else none
def iSlice (size:Nat) (x:AV) (lo hi mx:Option AV):Option AV :=
 match x with
 | .t (.sl clip k xs) =>
  match optNat 0 lo,optNat xs.length hi with
  | some l,some u =>
   if l≤u∧u≤xs.length∧k=size then
    match mx with
    | none=>some (.t (.sl (clip && decide (u=xs.length)) k ((xs.take u).drop l)))
    | some m=>match asNat m with
     | some m=>if m=u∧hi.isSome=true then some (.t (.sl true k ((xs.take u).drop l))) else none
     | none=>none
   else none
  | _,_=>none
 | .t (.sc (.slice none 0 0)) =>
  match optNat 0 lo,optNat 0 hi,optNat 0 mx with
  | some 0,some 0,some 0=>if mx.isSome=true∧hi.isSome=false then none else some x
  | _,_,_=>none
 | .ms o e i len k clip =>
  match optNat 0 lo,optNat len hi with
  | some l,some u =>
   if l≤u∧u≤len∧k=size then
    match mx with
    | none=>some (.ms o e (i+l) (u - l) k (clip && decide (u=len)))
    | some m=>match asNat m with
     | some m=>if m=u∧hi.isSome=true then some (.ms o e (i+l) (u - l) k true) else none
     | none=>none
   else none
  | _,_=>none
 | _=>none
def iAppend (size bytes:Nat) (s x:AV) (h:Heap):Option (AV × Heap) :=
 match elemsOf h size x with
 | some xs =>
  match s with
  | .t (.sc (.slice none 0 0)) =>
   match xs with
   | []=>some (s,h)
   | x::xs=>if (xs.length+1)*bytes≤roomB then some (.ms h.length (xs.length+1) 0 (xs.length+1) size false,h++[.row size (x::xs) 0]) else none
  | .t (.sl true k ys) =>
   match xs with
   | []=>some (s,h)
   | x::xs=>if (ys.length+(xs.length+1))*bytes≤roomB∧(k=size∨ys=[]) then
     some (.ms h.length (ys.length+(xs.length+1)) 0 (ys.length+(xs.length+1)) size false,h++[.row size (ys.map .t++(x::xs)) 0]) else none
  | .ms o e i len k clip =>
   match xs with
   | []=>some (s,h)
   | x::xs =>
    match h[o]? with
    | some (.row k2 elems mr) =>
     if (len+(xs.length+1))*bytes≤roomB∧k=size∧k2=size∧mr≤e∧i+len≤e∧e≤elems.length then
      if clip then
       some (.ms h.length (len+(xs.length+1)) 0 (len+(xs.length+1)) size false,h++[.row size ((elems.drop i).take len++(x::xs)) 0])
      else if i=0∧len=e∧e=elems.length then
       some (.ms o (e+(xs.length+1)) 0 (len+(xs.length+1)) size false,h.set o (.row size (elems++(x::xs)) mr))
      else none
     else none
    | _=>none
  | _=>none
 | none=>none
def srcs (e:FEnv):List Src→List AV
 | []=>[]
 | x::r=>x.get e::srcs e r
def parts2 (e:FEnv):List (Nat × Src)→List (Nat × AV)
 | []=>[]
 | (i,x)::r=>(i,x.get e)::parts2 e r
def parts3 (e:FEnv):List (Nat × Nat × Src)→List (Nat × Nat × AV)
 | []=>[]
 | (i,n,x)::r=>(i,n,x.get e)::parts3 e r
def optSrc (e:FEnv):Option Src→Option AV
 | none=>none
 | some x=>some (x.get e)
def vOf (h:Heap):Option AV→Option Res
 | some v=>some (.val v h)
 | none=>none
def hOf:Option Heap→Option Res
 | some h=>some (.skip h)
 | none=>none
def vhOf:Option (AV × Heap)→Option Res
 | some (v,h)=>some (.val v h)
 | none=>none
def cSrc (pol:Pol):Operand→Src
 | .tmp t=>.v t
 | .const v=>if okVal v then .c (ofVal v) else .d
 | .global g=>match pol.glob g with|some x=>.c x|none=>.d
 | .func f=>.c (.fn (.func f) [] [])
def iPick (c a b:AV):Option AV :=
 match c with
 | .t (.sc (.bool c))=>match a,b with
  | .t (.sc (.bool x)),.t (.sc (.bool y))=>some (bo (if c then x else y))
  | x,y=>some (if c then x else y)
 | _=>none
def iBox (m:Bool) (x:AV) (h:Heap):Option Res :=
 match m,x with
 | false,.t y=>if storableAll (AV.t y).cells then some (.val (.t (.ip y.cells)) h) else none
 | _,y=>if storableAll y.cells && !y.cells.isEmpty then some (.val (.ref h.length 1 0 0) (h++[.row y.cells.length [y] 0])) else none
def iNot:AV→Option AV
 | .t (.sc (.bool b))=>some (bo !b)
 | _=>none
def iNeg:AV→Option AV
 | .t (.sc (.int k n))=>some (.t (.sc (.int k (k.wrap (0 - n)))))
 | _=>none
def iConv (k:IntKind):AV→Option AV
 | .t (.sc (.int _ n))=>some (.t (.sc (.int k (k.wrap n))))
 | _=>none
def iFn (g:FuncId) (a b:List AV):AV :=
 match allT a,allT b with
 | some a,some b=>.t (.fn (.func g) a b)
 | _,_=>.fn (.func g) a b
def iExt (x:AV) (i:Nat):Option AV :=
 match x with
 | .t (.tup vs)=>match vs[i]? with|some y=>some (.t y)|none=>none
 | .tup vs=>vs[i]?
 | _=>none
def iLen (x:AV):Option AV :=
 match lenOf x with
 | some n=>some (i64 n)
 | none=>none
def iMnx (mx:Bool):AV→AV→Option AV
 | .t (.sc (.int k a)),.t (.sc (.int _ b))=>some (.t (.sc (.int k (if mx then (if a < b then b else a) else (if b < a then b else a)))))
 | _,_=>none
def iFld (agg:Bool) (n off:Nat) (x:AV):Option AV:=if x.isAgg then takeR agg n (x.cells.drop off) else none
def iNil:AV→Option AV
 | .t (.ip cs)=>some (.t (.ip cs))
 | .t (.fn (.func g) a b)=>some (.t (.fn (.func g) a b))
 | .ref o e i k=>some (.ref o e i k)
 | .fn (.func g) a b=>some (.fn (.func g) a b)
 | .yl o=>some (.yl o)
 | _=>none
def iGrow (size:Nat) (x:AV) (h:Heap):Res :=
 match x with
 | .t (.sc (.slice none 0 0))=>.val (.ms h.length 0 0 0 size false) (h++[.row size [] 0])
 | y=>.val y h
def iBuildS (m:Bool) (size:Nat) (z:T) (len:Nat) (parts:List (Nat × AV)) (h:Heap):Option Res :=
 match fillElems size (List.replicate len (.t z)) parts with
 | some elems=>match m,allT elems with
  | false,some ts=>some (.val (.t (.sl true size ts)) h)
  | _,_=>some (.val (.ms h.length len 0 len size true) (h++[.row size elems 0]))
 | none=>none
def iBuild (cs:List T) (parts:List (Nat × Nat × AV)):Option AV :=
 match fillR (cs.map .t) parts with
 | some cs=>some (mkAgg cs)
 | none=>none
def iStep (P:Program) (pol:Pol) (f:FuncId) (e:FEnv) (h:Heap):IOp→Option Res
 | .mv x=>some (.val (x.get e) h)
 | .gmv size x=>some (iGrow size (x.get e) h)
 | .pk c a b=>vOf h (iPick (c.get e) (a.get e) (b.get e))
 | .nw k z=>some (.val (.ref h.length 1 0 0) (h++[.row k [.t z] 0]))
 | .nwG size=>some (.val (.ref (h.length+1) 1 0 0) (h++[.row size [] 0,.row 1 [.ms h.length 0 0 0 size false] 0]))
 | .bx m x=>iBox m (x.get e) h
 | .bd cs parts=>vOf h (iBuild cs (parts3 e parts))
 | .bs m size z len parts=>iBuildS m size z len (parts2 e parts) h
 | .ld agg n a=>vOf h (iLoad agg n (a.get e) h)
 | .st n a x=>hOf (iStore n (a.get e) (x.get e) h)
 | .nc x=>vOf h (iNil (x.get e))
 | .bin op bl x y=>vOf h (iBin op bl (x.get e) (y.get e))
 | .nt x=>vOf h (iNot (x.get e))
 | .ng x=>vOf h (iNeg (x.get e))
 | .cv k x=>vOf h (iConv k (x.get e))
 | .fn g a b=>some (.val (iFn g (srcs e a) (srcs e b)) h)
 | .sl size x lo hi mx=>vOf h (iSlice size (x.get e) (optSrc e lo) (optSrc e hi) (optSrc e mx))
 | .fa off x=>vOf h (iFieldAddr off (x.get e))
 | .fd agg n off x=>vOf h (iFld agg n off (x.get e))
 | .iaS size x i=>match asNat (i.get e) with
  | some j=>vOf h (iIdxS size (x.get e) j)
  | none=>none
 | .iaA len size x i=>match asNat (i.get e) with
  | some j=>vOf h (iIdxA len size (x.get e) j)
  | none=>none
 | .ixA agg n len size x i=>match asNat (i.get e) with
  | some k=>if (x.get e).isAgg then (if k < len then vOf h (takeR agg n ((x.get e).cells.drop (k*size))) else none) else none
  | none=>none
 | .ex x i=>vOf h (iExt (x.get e) i)
 | .lenS x=>vOf h (iLen (x.get e))
 | .app size bytes s x=>vhOf (iAppend size bytes (s.get e) (x.get e) h)
 | .mnx mx x y=>vOf h (iMnx mx (x.get e) (y.get e))
 | .call g args=>aCallee (g.get e) (srcs e args)
 | .raw o=>aOp P pol f (fun x=>(cSrc pol x).get e) h o
inductive TK where
 | objs (l:List Src)
 | cal (g:Src) (args:List Src)
 | any
 deriving Inhabited
structure I1 where
 dst:Option Tmp
 g:Option (Tmp × Bool):=none
 fz:Option (List Src):=none
 tk:TK:=.objs []
 op:IOp
 deriving Inhabited
inductive C where
 | nop
 | ops (l:List I1)
 | opsD (crit:List (Nat × Nat)) (l:List I1)
 | seq (a b:C)
 | cond (c:Src) (a b:C)
 | block (id:Nat) (c:C)
 | loop (live:Option (List Tmp)) (c:C)
 | exit (id:Nat)
 | ret
 | rangeF (n:Nat) (live:Option (List Tmp)) (g:Src) (params:List Tmp) (assign body:Code)
 | bad
 deriving Inhabited
section
variable (P:Program) (pol:Pol) (f:FuncId)
def cPlaces (ps:List (Nat × Nat)):List (Nat × Operand)→Option (List (Nat × Nat × Src))
 | []=>some []
 | (i,x)::r=>match ps[i]?,cPlaces ps r with
  | some (off,n),some l=>some ((off,n,cSrc pol x)::l)
  | _,_=>none
def cPlacesA (size:Nat):List (Nat × Operand)→List (Nat × Nat × Src)
 | []=>[]
 | (i,x)::r=>(i*size,size,cSrc pol x)::cPlacesA size r
def cParts:List (Nat × Operand)→List (Nat × Src)
 | []=>[]
 | (i,x)::r=>(i,cSrc pol x)::cParts r
def cOp (o:Oper):IOp :=
 let d:=o.dst.getD 0
 match o.op with
 | .move x=>.mv (cSrc pol x)
 | .assign x=>if pol.grow f d then (match typ P o.type with
   | some (.slice elem)=>match szOf P elem with
    | some size=>.gmv size (cSrc pol x)
    | none=>.raw o
   | _=>.raw o) else .mv (cSrc pol x)
 | .pick c a b=>.pk (cSrc pol c) (cSrc pol a) (cSrc pol b)
 | .alloc t=>if pol.grow f d then (match zeroOf P t,typ P t with
   | some (.sc (.slice none 0 0)),some (.slice elem)=>match szOf P elem with
    | some size=>.nwG size
    | none=>.raw o
   | _,_=>.raw o) else (match zeroOf P t with
   | some z=>if storableAll (AV.t z).cells then .nw (AV.t z).cells.length z else .raw o
   | none=>.raw o)
 | .box _ x=>if pol.grow f d then .raw o else .bx (pol.isMut f d) (cSrc pol x)
 | .build t parts=>match zeroOf P t,typ P t with
  | some z,some (.struct fields)=>match placesOf P fields.toList with
   | some places=>match cPlaces pol places parts.toList with
    | some l=>.bd z.cells l
    | none=>.raw o
   | none=>.raw o
  | some z,some (.array _ elem)=>match szOf P elem with
   | some size=>.bd z.cells (cPlacesA pol size parts.toList)
   | none=>.raw o
  | _,_=>.raw o
 | .buildSlice t len parts=>match typ P t with
  | some (.slice elem)=>match szOf P elem,zeroOf P elem with
   | some size,some z=>if (size=0∨16777216 < len*size∨(AV.t z).cells.length≠size∨storableAll (AV.t z).cells=false)∨pol.grow f d=true then .raw o else .bs (pol.isMut f d) size z len (cParts pol parts.toList)
   | _,_=>.raw o
  | _=>.raw o
 | .load t a=>match aggB P t,szOf P t with
  | some b,some n=>.ld b n (cSrc pol a)
  | _,_=>.raw o
 | .store t a x=>if keepAt P pol f t x || (nilAt P pol f t a x).isSome then .raw o else match szOf P t with
  | some n=>.st n (cSrc pol a) (cSrc pol x)
  | none=>.raw o
 | .nilCheck x=>.nc (cSrc pol x)
 | .binOp op t x y _=>match typ P t with
  | some .bool=>.bin op true (cSrc pol x) (cSrc pol y)
  | some (.int _)=>.bin op false (cSrc pol x) (cSrc pol y)
  | some .string=>.bin op false (cSrc pol x) (cSrc pol y)
  | _=>.raw o
 | .unOp op _ x=>match op with
  | .not=>.nt (cSrc pol x)
  | .neg=>.ng (cSrc pol x)
  | _=>.raw o
 | .convert s t x=>match typ P s,typ P t with
  | some (.int _),some (.int k)=>.cv k (cSrc pol x)
  | _,_=>.raw o
 | .makeFunc fn first captured=>match fn with
  | .func g=>.fn g (first.toList.map (cSrc pol)) (captured.toList.map (cSrc pol))
  | _=>.raw o
 | .slice t x lo hi mx=>match typ P t with
  | some (.slice elem)=>match szOf P elem with
   | some size=>.sl size (cSrc pol x) (lo.map (cSrc pol)) (hi.map (cSrc pol)) (mx.map (cSrc pol))
   | none=>.raw o
  | _=>.raw o
 | .fieldAddr s x fi=>match aField P s fi with
  | some (_,off)=>.fa off (cSrc pol x)
  | none=>.raw o
 | .field s x fi=>match aField P s fi with
  | some (t,off)=>match aggB P t,szOf P t with
   | some b,some n=>.fd b n off (cSrc pol x)
   | _,_=>.raw o
  | none=>.raw o
 | .indexAddr t x ix=>match typ P t with
  | some (.slice elem)=>match szOf P elem with
   | some size=>.iaS size (cSrc pol x) (cSrc pol ix)
   | none=>.raw o
  | some (.array len elem)=>match szOf P elem with
   | some size=>.iaA len size (cSrc pol x) (cSrc pol ix)
   | none=>.raw o
  | _=>.raw o
 | .index t x ix=>match typ P t with
  | some (.array len elem)=>match szOf P elem,aggB P elem with
   | some size,some b=>.ixA b size len size (cSrc pol x) (cSrc pol ix)
   | _,_=>.raw o
  | _=>.raw o
 | .extract x i=>.ex (cSrc pol x) i
 | .call c=>match c.callee with
  | .builtin b=>match b,c.args.toList,c.argTypes.toList with
   | .len,[x],[t]=>match typ P t with
    | some (.slice _)=>.lenS (cSrc pol x)
    | _=>.raw o
   | .append,[s,x],[t,u]=>match typ P t,typ P u with
    | some (.slice elem),some (.slice _)=>match szOf P elem,byOf P elem with
     | some size,some bytes=>if size=0∨bytes=0∨zeroCells P elem≠some size then .raw o else .app size bytes (cSrc pol s) (cSrc pol x)
     | _,_=>.raw o
    | _,_=>.raw o
   | .min,[x,y],_=>.mnx false (cSrc pol x) (cSrc pol y)
   | .max,[x,y],_=>.mnx true (cSrc pol x) (cSrc pol y)
   | _,_,_=>.raw o
  | .value g=>.call (cSrc pol g) (c.args.toList.map (cSrc pol))
  | .invoke _ _=>.raw o
 | _=>.raw o
def cTk (o:Oper):TK :=
 match o.op with
 | .load _ a=>.objs [cSrc pol a]
 | .store _ a _=>.objs [cSrc pol a]
 | .lookup _ m _ _=>.objs [cSrc pol m]
 | .mapUpdate _ m _ _=>.objs [cSrc pol m]
 | .insert _ m _ _=>.objs [cSrc pol m]
 | .call c=>match c.callee with
  | .builtin .append=>.objs (c.args.toList.map (cSrc pol))
  | .builtin .copy=>.objs (c.args.toList.map (cSrc pol))
  | .builtin .len=>.objs (c.args.toList.map (cSrc pol))
  | .builtin _=>.objs []
  | .value g=>.cal (cSrc pol g) (c.args.toList.map (cSrc pol))
  | .invoke _ _=>.any
 | _=>.objs []
def cGuard (ops:List Oper):Option (Nat × Bool)→Option (Option (Tmp × Bool))
 | none=>some none
 | some (j,want)=>match ops[j]? with
  | some o=>match o.dst with
   | some d=>some (some (d,want))
   | none=>none
  | none=>none
def dstOk (n:Nat):Option Tmp→Bool
 | none=>true
 | some d=>decide (d < n)
def cOps (n:Nat) (ops:List Oper):List Oper→Option (List I1)
 | []=>some []
 | o::r=>match cGuard ops o.guard,cOps n ops r with
  | some g,some l=>if dstOk n o.dst then some ({ dst:=o.dst,g:=g,fz:=if pol.frz f (o.dst.getD 0) then some (o.op.operands.toList.map (cSrc pol)) else none,op:=cOp P pol f o }::l) else none
  | _,_=>none
def cOpsD (n:Nat) (ops:List Oper):List Oper→Option (List I1)
 | []=>some []
 | o::r=>match cGuard ops o.guard,cOpsD n ops r with
  | some g,some l=>if dstOk n o.dst then some ({ dst:=o.dst,g:=g,tk:=cTk pol o,op:=cOp P pol f o }::l) else none
  | _,_=>none
def cCode (n:Nat):(bid:Nat)→Code→C
 | _,.skip=>.nop
 | _,.label _=>.nop
 | _,.region _ ops false=>match cOps P pol f n ops.toList ops.toList with
  | some l=>.ops l
  | none=>.bad
 | _,.region id ops true=>match cOpsD P pol f n ops.toList ops.toList with
  | some l=>.opsD (pol.crit f id) l
  | none=>.bad
 | bid,.seq a b=>.seq (cCode n bid a) (cCode n bid b)
 | bid,.cond c a b=>.cond (cSrc pol c) (cCode n bid a) (cCode n bid b)
 | _,.block id c=>.block id (cCode n id c)
 | bid,.loop c=>.loop (pol.live f bid) (cCode n bid c)
 | bid,.scope c=>cCode n bid c
 | _,.exit id=>.exit id
 | _,.ret=>.ret
 | bid,.rangeFunc g params assign body=>.rangeF n (pol.live f bid) (cSrc pol g) params.toList assign body
 | _,_=>.bad
end
def gOk (e:FEnv):Option (Tmp × Bool)→Option Bool
 | none=>some true
 | some (t,want)=>match e t with
  | .t (.sc (.bool b))=>some (b == want)
  | .t (.sc _)=>some false
  | _=>none
def resStep (pol:Pol) (K:Oracle) (I:Inl) (f:FuncId) (d:Option Tmp) (h:Heap):Option Res→Option (AV × Heap)
 | some (.val v h')=>some (v,h')
 | some (.skip h')=>some (.t (.sc undef),h')
 | some (.call g args)=>aCall pol K I f (d.getD 0) g args h
 | none=>none
def frzF (h:Heap) (p:Nat→Bool) (e:FEnv):FEnv:=fun t=>match frz h p (e t) with|some v=>v|none=>.dead
def freezeF (os:List Nat) (e:FEnv) (h:Heap):Option (FEnv × Heap) :=
 match goneOf h (fun o=>os.contains o) 0 h with
 | some h'=>some (frzF h (fun o=>os.contains o) e,h')
 | none=>none
def shrinkF (n:Nat) (e:FEnv) (h:Heap):Option (FEnv × Heap) :=
 if h.length≤n then some (e,h)
 else match mapO (frzObj h (fromB n)) (h.take n) with
  | some h'=>some (frzF h (fromB n) e,h')
  | none=>none
def tidyF (live:Option (List Tmp)) (e:FEnv):FEnv :=
 match live with
 | some ts=>fun t=>if ts.contains t then e t else .dead
 | none=>e
def tkOf (pol:Pol) (f:FuncId) (d:Option Tmp) (e:FEnv):TK→Option (List Nat)
 | .objs l=>some ((srcs e l).flatMap objsOf)
 | .cal g args=>match aCallee (g.get e) (srcs e args) with
  | some (.call (.fn k) args)=>if pol.inl k f (d.getD 0) then none else (match allT args with|some _=>some []|none=>if pol.fresh k f (d.getD 0) then some (namesAll args) else none)
  | _=>none
 | .any=>none
section
variable (P:Program) (pol:Pol) (K:Oracle) (I:Inl) (n:Nat) (f:FuncId)
def wpOps:List I1→(FEnv→Heap→Prop)→FEnv→Heap→Prop
 | [],Q,e,h=>Q e h
 | i::r,Q,e,h =>
  match gOk e i.g with
  | some true=>match i.fz with
   | none=>match resStep pol K I f i.dst h (iStep P pol f e h i.op) with
    | some (v,h')=>wpOps r Q (upd e i.dst v) h'
    | none=>False
   | some os=>match freezeF (reach h 20 (namesAll (srcs e os))) e h with
    | some (e1,h1)=>match resStep pol K I f i.dst h1 (iStep P pol f e1 h1 i.op) with
     | some (v,h')=>wpOps r Q (upd e1 i.dst v) h'
     | none=>False
    | none=>False
  | some false=>wpOps r Q (upd e i.dst (.t (.sc undef))) h
  | none=>False
def wpOpsD:List I1→(FEnv→Heap→List (Option (List Nat))→Prop)→FEnv→Heap→Prop
 | [],Q,e,h=>Q e h []
 | i::r,Q,e,h =>
  match gOk e i.g with
  | some true=>match resStep pol K I f i.dst h (iStep P pol f e h i.op) with
   | some (v,h')=>if h'.length < h.length then False else wpOpsD r (fun e' h'' ts=>Q e' h'' (touchN (tkOf pol f i.dst e i.tk) h h'::ts)) (upd e i.dst v) h'
   | none=>False
  | some false=>wpOpsD r (fun e' h'' ts=>Q e' h'' (some []::ts)) (upd e i.dst (.t (.sc undef))) h
  | none=>False
def wpIter (n0:Nat) (live:Option (List Tmp)) (body:(Xit→FEnv→Heap→Prop)→FEnv→Heap→Prop) (Q:Xit→FEnv→Heap→Prop):Nat→FEnv→Heap→Prop
 | 0,_,_=>False
 | m+1,e,h=>body (fun x e' h'=>match x with
   | .normal=>match shrinkF n0 e' h' with
    | some (e'',h'')=>wpIter n0 live body Q m e'' h''
    | none=>False
   | .exit id=>Q (.exit id) e' h'
   | .ret=>Q .ret e' h') (tidyF live e) h
def wpC:C→(Xit→FEnv→Heap→Prop)→FEnv→Heap→Prop
 | .nop,Q,e,h=>Q .normal e h
 | .ops l,Q,e,h=>wpOps P pol K I f l (fun e h=>Q .normal e h) e h
 | .opsD crit l,Q,e,h=>wpOpsD P pol K I f l (fun e h ts=>critOk crit ts=true∧Q .normal e h) e h
 | .seq a b,Q,e,h=>wpC a (fun x e h=>match x with
   | .normal=>wpC b Q e h
   | .exit id=>Q (.exit id) e h
   | .ret=>Q .ret e h) e h
 | .cond c a b,Q,e,h=>match c.get e with
  | .t (.sc (.bool t))=>if t then wpC a Q e h else wpC b Q e h
  | _=>False
 | .block id c,Q,e,h=>wpC c (fun x e h=>match x with
   | .exit j=>if j=id then Q .normal e h else Q (.exit j) e h
   | .normal=>Q .normal e h
   | .ret=>Q .ret e h) e h
 | .loop live c,Q,e,h=>wpIter h.length live (wpC c) Q n e h
 | .exit id,Q,e,h=>Q (.exit id) e h
 | .ret,Q,e,h=>Q .ret e h
 | .rangeF m live g params assign body,Q,e,h=>match aCallee (g.get e) [.yl h.length] with
  | some (.call (.fn gf) args)=>match I (.fn gf) args (h++[.loop f ((List.range m).map (tidyF live e)) params assign body false none]) with
   | some (_,h2)=>match loopOf h2 h.length,shrinkF h.length e (h2.set h.length .gone) with
    | some none,some (e',h')=>Q .normal e' h'
    | some (some .ret),some (e',h')=>Q .ret e' h'
    | some (some (.exit id)),some (e',h')=>Q (.exit id) e' h'
    | _,_=>False
   | none=>False
  | _=>False
 | .bad,_,_,_=>False
end
structure FnIL where
 ntmps:Nat
 code:C
 results:List (Nat × Option (Bool × Nat))
def cRes (P:Program):List ResultVar→Option (List (Nat × Option (Bool × Nat)))
 | []=>some []
 | .tmp t::r=>match cRes P r with|some l=>some ((t,none)::l)|none=>none
 | .cell a t::r=>match aggB P t,szOf P t,cRes P r with
  | some b,some n,some l=>some ((a,some (b,n))::l)
  | _,_,_=>none
def cFn (P:Program) (pol:Pol) (f:FuncId):Option FnIL :=
 match P.funcs[f]? with
 | some fn=>match fn.body,cRes P fn.results.toList with
  | some c,some rs=>some { ntmps:=fn.ntmps,code:=cCode P pol f fn.ntmps 0 c,results:=rs }
  | _,_=>none
 | none=>none
def resF (e:FEnv) (h:Heap):List (Nat × Option (Bool × Nat))→Option (List AV)
 | []=>some []
 | (t,none)::r=>match resF e h r with|some l=>some (e t::l)|none=>none
 | (t,some (b,n))::r=>match iLoad b n (e t) h,resF e h r with
  | some v,some l=>some (v::l)
  | _,_=>none
def envOf (args:List AV):FEnv:=fun t=>args.getD t .dead
end Go.Abs
/- Code worked out ahead comes to what the evaluator comes to. -/
namespace Go.Abs
open Go
variable {P:Program} {pol:Pol} {f:FuncId} {e:FEnv} {h:Heap}
def rhoF (pol:Pol) (e:FEnv):Operand→AV:=fun x=>(cSrc pol x).get e
theorem q1Z (l:List Operand):srcs e (l.map (cSrc pol))=l.map (rhoF pol e):=by
 induction l with
 | nil=>rfl
 | cons x l ih=>simp only [List.map_cons,srcs,ih]; rfl
theorem q9F (x:Option Operand):optSrc e (x.map (cSrc pol))=x.map (rhoF pol e):=by cases x <;> rfl
theorem q9G (l:List (Nat × Operand)):parts2 e (cParts pol l)=zipT (rhoF pol e) l:=by
 induction l with
 | nil=>rfl
 | cons p l ih=>obtain ⟨i,x⟩:=p; simp only [cParts,parts2,zipT,ih]; rfl
theorem q0w (x:Option AV):vOf h x=(match x with|some v=>some (Res.val v h)|none=>none):=by cases x <;> rfl
theorem q5F (x:Option Heap):hOf x=(match x with|some h'=>some (Res.skip h')|none=>none):=by cases x <;> rfl
theorem q9H (x:Option (AV × Heap)):vhOf x=(match x with|some (v,h')=>some (Res.val v h')|none=>none):=by rcases x with _|⟨_,_⟩ <;> rfl
theorem q9I {ps:List (Nat × Nat)}:∀ (l:List (Nat × Operand)) {l':List (Nat × Nat × Src)} {cells:List AV},cPlaces pol ps l=some l'→fill (fun i=>ps[i]?) cells (zipT (rhoF pol e) l)=fillR cells (parts3 e l'):=by
 intro l
 induction l with
 | nil=>intro l' cells h; simp [cPlaces] at h; subst h; rfl
 | cons p l ih =>
  obtain ⟨i,x⟩:=p
  intro l' cells h
  simp only [cPlaces] at h
  split at h
  ·rename_i off n l2 h1 h2
   simp at h
   subst h
   simp only [zipT,fill,parts3,fillR,h1]
   rw [show rhoF pol e x=(cSrc pol x).get e from rfl]
   split
   ·exact ih h2
   ·rfl
  ·simp at h
theorem q9J {size:Nat}:∀ (l:List (Nat × Operand)) {cells:List AV},fill (fun i=>some (i*size,size)) cells (zipT (rhoF pol e) l)=fillR cells (parts3 e (cPlacesA pol size l)):=by
 intro l
 induction l with
 | nil=>intro cells; rfl
 | cons p l ih =>
  obtain ⟨i,x⟩:=p
  intro cells
  simp only [cPlacesA,zipT,fill,parts3,fillR]
  rw [show rhoF pol e x=(cSrc pol x).get e from rfl]
  split
  ·exact ih
  ·rfl
theorem q5G (z:T):(AV.t z).cells=z.cells.map .t:=by cases z <;> rfl
theorem q3s {t:TypeId} {b:Bool} {n:Nat} (h1:aggB P t=some b) (h2:szOf P t=some n) (cs:List AV):takeVar P t cs=takeR b n cs:=by
 cases b <;> simp [takeVar,takeR,h1,h2]
theorem q9K {t:TypeId} {b:Bool} {n:Nat} (h1:aggB P t=some b) (h2:szOf P t=some n) (cs:List T):takeVarT P t cs=takeRT b n cs:=by
 cases b <;> simp [takeVarT,takeRT,h1,h2]
theorem q5H {t:TypeId} {b:Bool} {n:Nat} (h1:aggB P t=some b) (h2:szOf P t=some n) (a:AV):aLoad P t a h=iLoad b n a h:=by
 cases a with
 | t x=>cases x with
  | ip cs=>simp only [aLoad,iLoad,q9K h1 h2]; rfl
  | _=>rfl
 | ref o e i off=>simp only [aLoad,iLoad,q3s h1 h2]; rfl
 | _=>rfl
theorem q5I {t:TypeId} {n:Nat} (h2:szOf P t=some n) (a v:AV):aStore P t a v h=iStore n a v h:=by
 unfold aStore iStore
 rw [h2]
 cases a <;> rfl
theorem q3t {α:Type} {m:Sem Unit} (hm:m=pure ()) (k:Sem α):(do m; k)=k:=by subst hm; rfl
theorem q9L {t:TypeId} {op:BinOp} {bl:Bool} {ox oy:Operand} {x y v:AV} (hb:bl=true→typ P t=some .bool) (hi:iBin op bl x y=some v):aBin P op t ox oy x y=some v:=by
 unfold iBin at hi
 split at hi
 ·rename_i k a k' b
  have hg:eqGuard op t ox oy (.int k a) (.int k' b)=pure ():=by
   unfold eqGuard
   split <;> rfl
  simp only [aBin]
  rw [q3t hg]
  cases op with
  | shl =>
   simp only at hi
   split at hi
   ·simp at hi
   ·rename_i hlt
    cases hi
    simp [binOp,Op.shift,hlt,pureRun,pure,okVal,ofVal]
  | shr =>
   simp only at hi
   split at hi
   ·simp at hi
   ·rename_i hlt
    cases hi
    simp [binOp,Op.shift,hlt,pureRun,pure,okVal,ofVal]
  | quo =>
   simp only at hi
   split at hi
   ·rename_i hk
    subst hk
    split at hi
    ·simp at hi
    ·rename_i hz
     cases hi
     simp [binOp,Op.intDiv,hz,pureRun,pure,okVal,ofVal]
   ·simp at hi
  | rem =>
   simp only at hi
   split at hi
   ·rename_i hk
    subst hk
    split at hi
    ·simp at hi
    ·rename_i hz
     cases hi
     simp [binOp,Op.intDiv,hz,pureRun,pure,okVal,ofVal]
   ·simp at hi
  | _ =>
   simp only at hi
   split at hi
   ·rename_i hk
    subst hk
    cases hi
    simp [binOp,Op.intArith,Op.intBits,Op.intCmp,pureRun,pure,okVal,ofVal,bo]
    all_goals (try (first|rfl|(apply Bool.eq_iff_iff.2; simp)))
   ·simp at hi
 ·rename_i a b
  split at hi
  ·rename_i hbl
   have ht:=hb hbl
   have hg:eqGuard op t ox oy (.bool a) (.bool b)=pure ():=by
    unfold eqGuard
    split <;> rfl
   simp only [aBin]
   rw [q3t hg]
   have hu:P.underlying t=some .bool:=ht
   have he:pureRun P (Op.equal t (.bool a) (.bool b))=some (a == b):=by
    have h2:Op.equal t (.bool a) (.bool b)=Op.equalIn (9999+1) t (.bool a) (.bool b):=rfl
    rw [h2,Op.equalIn]
    simp [underlying,program,hu,pureRun,pure,bind,Sem.bind]
   have hbnd:∀ {α β:Type} (m:Sem α) (k:α→β) (r:α),pureRun P m=some r→pureRun P (do pure (k (← m)))=some (k r):=by
    intro α β m k r hm
    have key:∀ m:Sem α,pureRun P m=some r→pureRun P (Sem.bind m fun a=>Sem.pure (k a))=some (k r):=by
     intro m
     induction m with
     | pure a=>intro hm; simp [pureRun] at hm; subst hm; rfl
     | program g ih=>intro hm; simp only [pureRun] at hm; exact ih P hm
     | _=>intro hm; simp [pureRun] at hm
    exact key m hm
   split at hi
   ·cases hi
    have h3:binOp .eql t (.bool a) (.bool b)=(do pure (.bool (← Op.equal t (.bool a) (.bool b)))):=rfl
    rw [h3,hbnd _ _ _ he]
    rfl
   ·cases hi
    have h3:binOp .neq t (.bool a) (.bool b)=(do pure (.bool (!(← Op.equal t (.bool a) (.bool b))))):=rfl
    rw [h3,hbnd _ (fun x=>Value.bool !x) _ he]
    rfl
   ·simp at hi
  ·simp at hi
 ·rename_i a b
  have hg:eqGuard op t ox oy (.string a) (.string b)=pure ():=by
   unfold eqGuard
   split <;> rfl
  simp only [aBin]
  rw [q3t hg]
  split at hi
  ·cases hi
   simp [binOp,Op.stringOp,pureRun,pure,okVal,ofVal,bo]
  ·cases hi
   simp [binOp,Op.stringOp,pureRun,pure,okVal,ofVal,bo]
  ·split at hi
   ·simp at hi
   ·rename_i hb
    cases hi
    simp [binOp,Op.stringOp,pureRun,pure,okVal,ofVal,bo,hb]
  ·simp at hi
 ·simp at hi
theorem q9M {t elem:TypeId} {size:Nat} (h1:typ P t=some (.slice elem)) (h2:szOf P elem=some size) (x:AV) (lo hi mx:Option AV):aSlice P t x lo hi mx=iSlice size x lo hi mx:=by
 cases x with
 | t x=>cases x with
  | sl clip k xs=>simp only [aSlice,iSlice,h1,h2]; cases optNat 0 lo <;> cases optNat xs.length hi <;> rfl
  | sc v=>cases v with
   | slice a len cap=>cases a with
    | none=>cases len with
     | zero=>cases cap with
      | zero=>simp only [aSlice,iSlice,h1,h2]; rcases optNat 0 lo with _|⟨_|_⟩ <;> rcases optNat 0 hi with _|⟨_|_⟩ <;> rcases optNat 0 mx with _|⟨_|_⟩ <;> rfl
      | succ n=>simp [aSlice,iSlice,h1]
     | succ n=>simp [aSlice,iSlice,h1]
    | some a=>simp [aSlice,iSlice,h1]
   | _=>simp [aSlice,iSlice,h1]
  | _=>simp [aSlice,iSlice,h1]
 | ms o e i len k clip=>simp only [aSlice,iSlice,h1,h2]; cases optNat 0 lo <;> cases optNat len hi <;> rfl
 | _=>simp [aSlice,iSlice,h1]
theorem q9N {t elem:TypeId} {size bytes:Nat} (h1:typ P t=some (.slice elem)) (h2:szOf P elem=some size) (h3:byOf P elem=some bytes) (h4:¬ (size=0∨bytes=0∨zeroCells P elem≠some size)) (s x:AV) :
  aAppend P t s x h=iAppend size bytes s x h:=by
 unfold aAppend iAppend
 simp only [h1,h2,h3]
 cases elemsOf h size x with
 | none=>rfl
 | some xs =>
  simp only [h4,if_false]
  rfl
theorem q9O {s t:TypeId} {ks k:IntKind} (h1:typ P s=some (.int ks)) (h2:typ P t=some (.int k)) (kk:IntKind) (n:Int):pureRun P (convert s t (.int kk n))=some (.int k (k.wrap n)):=by
 have h1:P.underlying s=some (.int ks):=h1
 have h2:P.underlying t=some (.int k):=h2
 simp [convert,underlying,program,h1,h2,pureRun,pure,bind,Sem.bind,Conv.intToInt]
theorem q9P {t:TypeId} {z:T} {fields:Array Field} {places:List (Nat × Nat)} {parts:List (Nat × Operand)} {l:List (Nat × Nat × Src)} (h1:zeroOf P t=some z) (h2:typ P t=some (.struct fields)) (h3:placesOf P fields.toList=some places)
  (h4:cPlaces pol places parts=some l):aBuild P t (zipT (rhoF pol e) parts)=iBuild z.cells (parts3 e l):=by
 simp only [aBuild,h1,h2,h3,iBuild]
 rw [q9I parts h4,q5G]
 rfl
theorem q9Q {t elem:TypeId} {z:T} {n size:Nat} {parts:List (Nat × Operand)} (h1:zeroOf P t=some z) (h2:typ P t=some (.array n elem)) (h3:szOf P elem=some size) :
  aBuild P t (zipT (rhoF pol e) parts)=iBuild z.cells (parts3 e (cPlacesA pol size parts)):=by
 simp only [aBuild,h1,h2,h3,iBuild]
 rw [q9J parts,q5G]
 rfl
theorem q3u {o:Oper} {r:Res} (hs:iStep P pol f e h (cOp P pol f o)=some r):aOp P pol f (rhoF pol e) h o=some r:=by
 have raw:iStep P pol f e h (.raw o)=some r→aOp P pol f (rhoF pol e) h o=some r:=fun h=>h
 have rho:∀ x,rhoF pol e x=(cSrc pol x).get e:=fun _=>rfl
 cases hop:o.op with
 | move x=>simp only [cOp,hop,iStep] at hs; simp only [aOp,hop]; exact hs
 | assign x =>
  simp only [cOp,hop] at hs
  split at hs
  ·rename_i hg
   split at hs
   ·rename_i elem ht
    split at hs
    ·rename_i size hsz
     simp only [iStep,iGrow] at hs
     simp only [aOp,hop,hg,if_true,ht,hsz]
     rw [rho]
     split at hs
     ·rename_i hx
      rw [hx]
      simp only [hsz]
      exact hs
     ·rename_i y hy
      split
      ·rename_i hx _; exact absurd hx hy
      ·exact hs
    ·exact raw hs
   ·exact raw hs
  ·rename_i hg
   simp only [aOp,hop,hg]
   exact hs
 | pick c a b =>
  simp only [cOp,hop,iStep,iPick] at hs
  simp only [aOp,hop,rho]
  split at hs
  ·rename_i c hc
   simp only [hc]
   split at hs
   ·rename_i x y hx hy
    simp only [hx,hy]
    exact hs
   ·rename_i hn
    split
    ·rename_i x y hx hy; exact absurd hy (hn x y hx)
    ·exact hs
  ·simp [vOf] at hs
 | alloc t =>
  simp only [cOp,hop] at hs
  split at hs
  ·rename_i hg
   split at hs
   ·rename_i elem hz ht
    split at hs
    ·rename_i size hsz
     simp only [aOp,hop,hg,if_true,hz,ht,hsz]
     exact hs
    ·exact raw hs
   ·exact raw hs
  ·rename_i hg
   split at hs
   ·rename_i z hz
    split at hs
    ·rename_i hst
     simp only [aOp,hop,hg,hz,hst,if_true]
     exact hs
    ·exact raw hs
   ·exact raw hs
 | box t x =>
  simp only [cOp,hop] at hs
  split at hs
  ·exact raw hs
  ·rename_i hg
   simp only [iStep,iBox] at hs
   simp only [aOp,hop,hg,rho]
   exact hs
 | build t parts =>
  simp only [cOp,hop] at hs
  split at hs
  ·rename_i z fields hz ht
   split at hs
   ·rename_i places hp
    split at hs
    ·rename_i l hl
     simp only [iStep,q0w] at hs
     simp only [aOp,hop]
     rw [q9P hz ht hp hl]
     exact hs
    ·exact raw hs
   ·exact raw hs
  ·rename_i z n elem hz ht
   split at hs
   ·rename_i size hsz
    simp only [iStep,q0w] at hs
    simp only [aOp,hop]
    rw [q9Q hz ht hsz]
    exact hs
   ·exact raw hs
  ·exact raw hs
 | buildSlice t len parts =>
  simp only [cOp,hop] at hs
  split at hs
  ·rename_i elem ht
   split at hs
   ·rename_i size z hsz hz
    split at hs
    ·exact raw hs
    ·rename_i hc
     simp only [iStep,iBuildS] at hs
     have hc4:¬ (size=0∨16777216 < len*size∨(AV.t z).cells.length≠size∨storableAll (AV.t z).cells=false):=fun k=>hc (.inl k)
     have hgr:pol.grow f (o.dst.getD 0)=false:=by
      cases hq:pol.grow f (o.dst.getD 0) with
      | false=>rfl
      | true=>exact absurd (.inr hq) hc
     simp only [aOp,hop,ht,hsz,hz,hc4,if_false,hgr,Bool.or_false,Bool.not_false]
     rw [← q9G]
     exact hs
   ·exact raw hs
  ·exact raw hs
 | load t a =>
  simp only [cOp,hop] at hs
  split at hs
  ·rename_i b n hb hn
   simp only [iStep,q0w] at hs
   simp only [aOp,hop,rho]
   rw [q5H hb hn]
   exact hs
  ·exact raw hs
 | store t a x =>
  simp only [cOp,hop] at hs
  split at hs
  ·exact raw hs
  ·rename_i hk
   split at hs
   ·rename_i n hn
    simp only [iStep,q5F] at hs
    rw [Bool.or_eq_true,not_or] at hk
    have hk2:nilAt P pol f t a x=none:=by cases hq:nilAt P pol f t a x with|none=>rfl|some s=>rw [hq] at hk; exact absurd rfl hk.2
    simp only [aOp,hop,rho,keepX,hk2]
    rw [if_neg hk.1,q5I hn]
    exact hs
   ·exact raw hs
 | nilCheck x =>
  simp only [cOp,hop,iStep,q0w] at hs
  simp only [aOp,hop,rho]
  unfold iNil at hs
  split at hs
  ·rename_i v hv
   split at hv <;> rename_i hx <;> try (simp at hv; done)
   all_goals (rw [hx]; cases hv; exact hs)
  ·simp at hs
 | binOp op t x y yt =>
  have fin:∀ bl,(bl=true→typ P t=some .bool)→iStep P pol f e h (.bin op bl (cSrc pol x) (cSrc pol y))=some r→aOp P pol f (rhoF pol e) h o=some r:=by
   intro bl hb hs
   simp only [iStep,q0w] at hs
   split at hs
   ·rename_i v hv
    cases hs
    simp only [aOp,hop,rho]
    rw [q9L hb hv]
   ·simp at hs
  simp only [cOp,hop] at hs
  split at hs
  ·rename_i ht; exact fin true (fun _=>ht) hs
  ·exact fin false (by simp) hs
  ·exact fin false (by simp) hs
  ·exact raw hs
 | unOp op t x =>
  simp only [cOp,hop] at hs
  split at hs
  ·simp only [iStep,q0w] at hs
   unfold iNot at hs
   simp only [aOp,hop,rho]
   split at hs
   ·rename_i v hv
    split at hv
    ·rename_i b hx
     cases hv
     cases hs
     rw [hx]
     simp [Op.unary,pureRun,pure,okVal,ofVal,bo]
    ·simp at hv
   ·simp at hs
  ·simp only [iStep,q0w] at hs
   unfold iNeg at hs
   simp only [aOp,hop,rho]
   split at hs
   ·rename_i v hv
    split at hv
    ·rename_i k n hx
     cases hv
     cases hs
     rw [hx]
     simp [Op.unary,Op.intArith,pureRun,pure,okVal,ofVal]
    ·simp at hv
   ·simp at hs
  ·exact raw hs
 | convert s t x =>
  simp only [cOp,hop] at hs
  split at hs
  ·rename_i ks k h1 h2
   simp only [iStep,q0w] at hs
   unfold iConv at hs
   simp only [aOp,hop,rho]
   split at hs
   ·rename_i v hv
    split at hv
    ·rename_i kk n hx
     cases hv
     cases hs
     rw [hx]
     simp only [q9O h1 h2]
     rfl
    ·simp at hv
   ·simp at hs
  ·exact raw hs
 | makeFunc fn first captured =>
  simp only [cOp,hop] at hs
  split at hs
  ·rename_i g
   simp only [iStep,iFn,q1Z] at hs
   simp only [aOp,hop]
   split at hs
   ·rename_i a b ha hb
    simp only [ha,hb]
    exact hs
   ·rename_i hn
    split
    ·rename_i a b ha hb; exact absurd hb (hn a b ha)
    ·exact hs
  ·exact raw hs
 | slice t x lo hi mx =>
  simp only [cOp,hop] at hs
  split at hs
  ·rename_i elem ht
   split at hs
   ·rename_i size hsz
    simp only [iStep,q0w,q9F] at hs
    simp only [aOp,hop]
    rw [q9M ht hsz,rho]
    exact hs
   ·exact raw hs
  ·exact raw hs
 | fieldAddr s x fi =>
  simp only [cOp,hop] at hs
  split at hs
  ·rename_i t off ha
   simp only [iStep,q0w] at hs
   simp only [aOp,hop,rho,aFieldAddr,ha]
   exact hs
  ·exact raw hs
 | field s x fi =>
  simp only [cOp,hop] at hs
  split at hs
  ·rename_i t off ha
   split at hs
   ·rename_i b n hb hn
    simp only [iStep,q0w,iFld] at hs
    simp only [aOp,hop,rho,ha]
    cases hag:((cSrc pol x).get e).isAgg with
    | false=>simp [hag] at hs
    | true =>
     simp only [hag,if_true] at hs
     simp only [q3s hb hn]
     exact hs
   ·exact raw hs
  ·exact raw hs
 | indexAddr t x ix =>
  simp only [cOp,hop] at hs
  split at hs
  ·rename_i elem ht
   split at hs
   ·rename_i size hsz
    simp only [iStep,q0w] at hs
    simp only [aOp,hop,rho,aIndexAddr,ht]
    split at hs
    ·rename_i j hj
     simp only [hj]
     split at hs
     ·rename_i v hv
      cases hs
      unfold iIdxS at hv
      split at hv
      ·rename_i hx
       simp only [hx,hsz]
       split at hv
       ·rename_i y hy
        split at hv
        ·rename_i hk
         cases hv
         simp [hy,hk]
        ·simp at hv
       ·simp at hv
      ·rename_i hx
       simp only [hx,hsz]
       split at hv
       ·rename_i hc
        cases hv
        simp [hc]
       ·simp at hv
      ·simp at hv
     ·simp at hs
    ·simp at hs
   ·exact raw hs
  ·rename_i len elem ht
   split at hs
   ·rename_i size hsz
    simp only [iStep,q0w] at hs
    simp only [aOp,hop,rho,aIndexAddr,ht]
    split at hs
    ·rename_i j hj
     simp only [hj,hsz]
     exact hs
    ·simp at hs
   ·exact raw hs
  ·exact raw hs
 | index t x ix =>
  simp only [cOp,hop] at hs
  split at hs
  ·rename_i len elem ht
   split at hs
   ·rename_i size b hsz hb
    simp only [iStep,q0w] at hs
    simp only [aOp,hop,rho,aIndex,ht]
    split at hs
    ·rename_i j hj
     simp only [hj,hsz]
     cases hag:((cSrc pol x).get e).isAgg with
     | false=>simp [hag] at hs
     | true =>
      simp only [hag,if_true] at hs
      split at hs
      ·rename_i hlt
       simp only [hlt,if_true,q3s hb hsz]
       exact hs
      ·simp at hs
    ·simp at hs
   ·exact raw hs
  ·exact raw hs
 | extract x i =>
  simp only [cOp,hop,iStep,q0w,iExt] at hs
  simp only [aOp,hop,rho]
  split at hs
  ·rename_i v hv
   cases hs
   split at hv
   ·rename_i vs hx
    rw [hx]
    simp only
    split at hv
    ·rename_i y hy
     cases hv
     rw [hy]
    ·simp at hv
   ·rename_i vs hx
    rw [hx]
    simp only [hv]
   ·simp at hv
  ·simp at hs
 | call c =>
  simp only [cOp,hop] at hs
  split at hs
  ·rename_i b hb
   simp only [aOp,hop,hb]
   split at hs
   ·rename_i x t ha ht
    split at hs
    ·rename_i el hty
     simp only [iStep,q0w,iLen] at hs
     simp only [aBuiltin,ha,ht,hty,List.map_cons,List.map_nil,rho]
     split at hs
     ·rename_i v hv
      cases hs
      split at hv
      ·rename_i n hn
       cases hv
       simp only [hn]
       rfl
      ·simp at hv
     ·simp at hs
    ·have:=raw hs; simpa only [aOp,hop,hb] using this
   ·rename_i s x t u ha ht
    split at hs
    ·rename_i elem el2 h1 h2
     split at hs
     ·rename_i size bytes h3 h4
      split at hs
      ·have:=raw hs; simpa only [aOp,hop,hb] using this
      ·rename_i hc
       simp only [iStep,q9H] at hs
       simp only [aBuiltin,ha,ht,h2,List.map_cons,List.map_nil,rho]
       rw [q9N h1 h3 h4 hc]
       exact hs
     ·have:=raw hs; simpa only [aOp,hop,hb] using this
    ·have:=raw hs; simpa only [aOp,hop,hb] using this
   ·rename_i x y ha
    simp only [iStep,q0w] at hs
    split at hs
    ·rename_i v hv
     cases hs
     unfold iMnx at hv
     simp only [ha,List.map_cons,List.map_nil,rho]
     split at hv
     ·rename_i k a k' b hx hy
      cases hv
      rw [hx,hy]
      simp [aBuiltin]
     ·simp at hv
    ·simp at hs
   ·rename_i x y ha
    simp only [iStep,q0w] at hs
    split at hs
    ·rename_i v hv
     cases hs
     unfold iMnx at hv
     simp only [ha,List.map_cons,List.map_nil,rho]
     split at hv
     ·rename_i k a k' b hx hy
      cases hv
      rw [hx,hy]
      simp [aBuiltin]
     ·simp at hv
    ·simp at hs
   ·have:=raw hs; simpa only [aOp,hop,hb] using this
  ·rename_i g hg
   simp only [iStep,q1Z] at hs
   simp only [aOp,hop,hg,rho]
   exact hs
  ·have:=raw hs; simpa only [aOp,hop] using this
 | _=>simp only [cOp,hop] at hs; exact raw hs
end Go.Abs
/- What is shown of the states of code worked out ahead is so of the evaluator; the door for a function's contract. -/
namespace Go.Abs
open Go
variable {P:Program} {pol:Pol} {K:Oracle} {I:Inl} {f:FuncId} {n m:Nat}
structure Agr (n:Nat) (e:FEnv) (env:Env):Prop where
 len:env.length=n
 get:∀ t,env.getD t .dead=e t
theorem Agr.eval {e:FEnv} {env:Env} (h:Agr n e env):evalOperand pol env=rhoF pol e:=by
 funext x
 cases x with
 | tmp t=>exact h.get t
 | const v=>simp only [evalOperand,rhoF,cSrc]; split <;> rfl
 | global g=>simp only [evalOperand,rhoF,cSrc]; cases pol.glob g <;> rfl
 | func g=>rfl
theorem Agr.put {e:FEnv} {env:Env} (h:Agr n e env) {d:Option Tmp} (hd:dstOk n d=true) (v:AV):Agr n (upd e d v) (put env d v):=by
 cases d with
 | none=>exact h
 | some d =>
  simp only [dstOk,decide_eq_true_eq] at hd
  refine ⟨by simp [Go.Abs.put,h.len],fun t=>?_⟩
  simp only [Go.Abs.put,upd,List.getD_eq_getElem?_getD]
  by_cases ht:t=d
  ·subst ht
   rw [List.getElem?_set_self (by rw [h.len]; exact hd)]
   simp
  ·rw [List.getElem?_set_ne (fun e=>ht e.symm)]
   simp only [ht,if_false]
   rw [← h.get t,List.getD_eq_getElem?_getD]
theorem Agr.tidy {e:FEnv} {env:Env} (h:Agr n e env) (live:Option (List Tmp)):Agr n (tidyF live e) (tidy live env):=by
 cases live with
 | none=>exact h
 | some ts =>
  refine ⟨by simp [Go.Abs.tidy,keepOnly,h.len],fun t=>?_⟩
  simp only [Go.Abs.tidy,keepOnly,tidyF,List.getD_eq_getElem?_getD,List.getElem?_mapIdx]
  have:=h.get t
  rw [List.getD_eq_getElem?_getD] at this
  cases hx:env[t]? with
  | none=>rw [hx] at this; simp at this; simp [← this]
  | some v=>rw [hx] at this; simp at this; simp [this]
theorem Agr.frz {e:FEnv} {env:Env} (h:Agr n e env) (hp:Heap) (p:Nat→Bool):Agr n (frzF hp p e) (frzEnv hp p env):=by
 refine ⟨by simp [frzEnv,h.len],fun t=>?_⟩
 have:=h.get t
 simp only [frzEnv,frzF,List.getD_eq_getElem?_getD,List.getElem?_map] at this ⊢
 cases hx:env[t]? with
 | none=>rw [hx] at this; simp at this; rw [← this]; simp [Go.Abs.frz,frzCell,avoid]
 | some v=>rw [hx] at this; simp at this; subst this; rfl
theorem Agr.freeze {e e':FEnv} {env:Env} {h h':Heap} {os:List Nat} (ha:Agr n e env) (hs:freezeF os e h=some (e',h')):∃ env',freeze os env h=some (env',h')∧Agr n e' env':=by
 unfold freezeF at hs
 split at hs
 ·rename_i h2 hg
  cases hs
  exact ⟨_,by unfold Go.Abs.freeze; rw [hg],ha.frz h _⟩
 ·simp at hs
theorem Agr.shrink {e e':FEnv} {env:Env} {h h':Heap} {n0:Nat} (ha:Agr n e env) (hs:shrinkF n0 e h=some (e',h')):∃ env',shrink n0 env h=some (env',h')∧Agr n e' env':=by
 unfold shrinkF at hs
 split at hs
 ·rename_i hl
  cases hs
  exact ⟨env,by unfold Go.Abs.shrink; rw [if_pos hl],ha⟩
 ·rename_i hl
  split at hs
  ·rename_i h2 hm
   cases hs
   exact ⟨_,by unfold Go.Abs.shrink; rw [if_neg hl,hm],ha.frz h _⟩
  ·simp at hs
theorem q5J {ops:List Oper} {e:FEnv} {env:Env} (ha:Agr n e env) {g:Option (Nat × Bool)} {g':Option (Tmp × Bool)} (hg:cGuard ops g=some g'):guardOk ops env g=gOk e g':=by
 cases g with
 | none=>simp [cGuard] at hg; subst hg; rfl
 | some jw =>
  obtain ⟨j,want⟩:=jw
  simp only [cGuard] at hg
  split at hg
  ·rename_i o ho
   split at hg
   ·rename_i d hd
    cases hg
    simp only [guardOk,ho,hd,gOk,ha.get]
    rfl
   ·simp at hg
  ·simp at hg
theorem q3v {o:Oper} {e:FEnv} {env:Env} {h h':Heap} {v:AV} (ha:Agr n e env) (hs:resStep pol K I f o.dst h (iStep P pol f e h (cOp P pol f o))=some (v,h')):aStep1 P pol K I f o env h=some (put env o.dst v,h'):=by
 unfold aStep1
 rw [ha.eval]
 unfold resStep at hs
 split at hs
 ·rename_i v2 h2 hr
  cases hs
  rw [q3u hr]
 ·rename_i h2 hr
  cases hs
  rw [q3u hr]
 ·rename_i g args hr
  rw [q3u hr]
  simp only [hs]
 ·simp at hs
theorem q9R {ops:List Oper}:∀ (rest:List Oper) {l:List I1} {Q:FEnv→Heap→Prop} {e:FEnv} {env:Env} {h:Heap},cOps P pol f n ops rest=some l→Agr n e env→wpOps P pol K I f l Q e h →
  ∃ env' h' e',aOps P pol K I f ops rest env h=some (env',h')∧Agr n e' env'∧Q e' h':=by
 intro rest
 induction rest with
 | nil=>intro l Q e env h hc ha hw; simp [cOps] at hc; subst hc; exact ⟨env,h,e,rfl,ha,hw⟩
 | cons o rest ih =>
  intro l Q e env h hc ha hw
  simp only [cOps] at hc
  split at hc
  ·rename_i g l2 hg hl
   split at hc
   ·rename_i hd
    cases hc
    simp only [wpOps] at hw
    simp only [aOps,q5J ha hg]
    split at hw
    ·rename_i hgo
     simp only [hgo,if_true]
     unfold aStep
     split at hw
     ·rename_i hfz
      cases hfr:pol.frz f (o.dst.getD 0) with
      | true=>simp [hfr] at hfz
      | false =>
       simp only [Bool.false_eq_true,if_false]
       split at hw
       ·rename_i v h' hr
        rw [q3v ha hr]
        exact ih hl (ha.put hd v) hw
       ·exact hw.elim
     ·rename_i os hfz
      cases hfr:pol.frz f (o.dst.getD 0) with
      | false=>simp [hfr] at hfz
      | true =>
       simp [hfr] at hfz
       subst hfz
       simp only [if_true]
       split at hw
       ·rename_i e1 h1 hf
        rw [q1Z,← ha.eval] at hf
        obtain ⟨env1,hf1,ha1⟩:=ha.freeze hf
        rw [hf1]
        simp only
        split at hw
        ·rename_i v h' hr
         rw [q3v ha1 hr]
         exact ih hl (ha1.put hd v) hw
        ·exact hw.elim
       ·exact hw.elim
    ·rename_i hgo
     simp only [hgo,Bool.false_eq_true,if_false]
     exact ih hl (ha.put hd _) hw
    ·exact hw.elim
   ·simp at hc
  ·simp at hc
theorem tk_eq {o:Oper} {e:FEnv} {env:Env} (ha:Agr n e env):touch0 pol f (evalOperand pol env) o=tkOf pol f o.dst e (cTk pol o):=by
 rw [ha.eval]
 have h1:∀ x,objsOf (rhoF pol e x)=(srcs e [cSrc pol x]).flatMap objsOf:=fun x=>by simp [srcs,rhoF]
 have h2:∀ l:List Operand,(l.flatMap fun a=>objsOf (rhoF pol e a))=(srcs e (l.map (cSrc pol))).flatMap objsOf:=fun l=>by rw [q1Z]; induction l <;> simp_all
 cases hop:o.op with
 | load t a=>simp only [touch0,cTk,hop,tkOf,h1]
 | store t a x=>simp only [touch0,cTk,hop,tkOf,h1]
 | lookup t m k ok=>simp only [touch0,cTk,hop,tkOf,h1]
 | mapUpdate t m k x=>simp only [touch0,cTk,hop,tkOf,h1]
 | insert t m k x=>simp only [touch0,cTk,hop,tkOf,h1]
 | call c =>
  cases hc:c.callee with
  | builtin b=>cases b <;> simp only [touch0,cTk,hop,hc,tkOf,h2,srcs,List.flatMap_nil]
  | value g =>
   simp only [touch0,cTk,hop,hc,tkOf,q1Z]
   rfl
  | invoke r k=>simp only [touch0,cTk,hop,hc,tkOf]
 | _=>simp only [touch0,cTk,hop,tkOf,srcs,List.flatMap_nil]
theorem q9S {ops:List Oper}:∀ (rest:List Oper) {l:List I1} {Q:FEnv→Heap→List (Option (List Nat))→Prop} {e:FEnv} {env:Env} {h:Heap},cOpsD P pol f n ops rest=some l→Agr n e env→wpOpsD P pol K I f l Q e h →
  ∃ env' h' ts e',aOpsD P pol K I f ops rest env h=some (env',h',ts)∧Agr n e' env'∧Q e' h' ts:=by
 intro rest
 induction rest with
 | nil=>intro l Q e env h hc ha hw; simp [cOpsD] at hc; subst hc; exact ⟨env,h,[],e,rfl,ha,hw⟩
 | cons o rest ih =>
  intro l Q e env h hc ha hw
  simp only [cOpsD] at hc
  split at hc
  ·rename_i g l2 hg hl
   split at hc
   ·rename_i hd
    cases hc
    simp only [wpOpsD] at hw
    simp only [aOpsD,q5J ha hg]
    split at hw
    ·rename_i hgo
     simp only [hgo,if_true]
     split at hw
     ·rename_i v h' hr
      rw [q3v ha hr]
      simp only
      split at hw
      ·exact hw.elim
      ·rename_i hlen
       obtain ⟨env2,h2,ts,e2,r1,r2,r3⟩:=ih hl (ha.put hd v) hw
       refine ⟨env2,h2,_,e2,by simp only [hlen,if_false,r1]; rfl,r2,?_⟩
       rw [tk_eq ha]
       exact r3
     ·exact hw.elim
    ·rename_i hgo
     simp only [hgo,Bool.false_eq_true,if_false]
     obtain ⟨env2,h2,ts,e2,r1,r2,r3⟩:=ih hl (ha.put hd _) hw
     exact ⟨env2,h2,_,e2,by simp only [r1],r2,r3⟩
    ·exact hw.elim
   ·simp at hc
  ·simp at hc
theorem q9T {n0:Nat} {live:Option (List Tmp)} {body:(Xit→FEnv→Heap→Prop)→FEnv→Heap→Prop} {aBody:Env→Heap→Option (Xit × Env × Heap)} {Q:Xit→FEnv→Heap→Prop}
  (hb:∀ {Q:Xit→FEnv→Heap→Prop} {e:FEnv} {env:Env} {h:Heap},Agr n e env→body Q e h→∃ x env' h' e',aBody env h=some (x,env',h')∧Agr n e' env'∧Q x e' h') :
  ∀ (k:Nat) {e:FEnv} {env:Env} {h:Heap},Agr n e env→wpIter n0 live body Q k e h→∃ x env' h' e',iter n0 live aBody k env h=some (x,env',h')∧Agr n e' env'∧Q x e' h':=by
 intro k
 induction k with
 | zero=>intro e env h _ hw; exact hw.elim
 | succ k ih =>
  intro e env h ha hw
  simp only [wpIter] at hw
  obtain ⟨x,env1,h1,e1,r1,r2,r3⟩:=hb (ha.tidy live) hw
  cases x with
  | normal =>
   simp only at r3
   split at r3
   ·rename_i e2 h2 hs
    obtain ⟨env2,q1,q2⟩:=r2.shrink hs
    obtain ⟨x,env3,h3,e3,s1,s2,s3⟩:=ih q2 r3
    exact ⟨x,env3,h3,e3,by simp only [iter,r1,q1]; exact s1,s2,s3⟩
   ·exact r3.elim
  | exit id=>exact ⟨_,env1,h1,e1,by simp only [iter,r1],r2,r3⟩
  | ret=>exact ⟨_,env1,h1,e1,by simp only [iter,r1],r2,r3⟩
theorem q3w:∀ (c:Code) {bid:Nat} {Q:Xit→FEnv→Heap→Prop} {e:FEnv} {env:Env} {h:Heap},Agr n e env→wpC P pol K I m f (cCode P pol f n bid c) Q e h →
  ∃ x env' h' e',aCode P pol K I m f bid c env h=some (x,env',h')∧Agr n e' env'∧Q x e' h':=by
 intro c
 induction c with
 | skip=>intro bid Q e env h ha hw; exact ⟨_,env,h,e,rfl,ha,hw⟩
 | label l=>intro bid Q e env h ha hw; exact ⟨_,env,h,e,rfl,ha,hw⟩
 | exit id=>intro bid Q e env h ha hw; exact ⟨_,env,h,e,rfl,ha,hw⟩
 | ret=>intro bid Q e env h ha hw; exact ⟨_,env,h,e,rfl,ha,hw⟩
 | region id ops dr =>
  intro bid Q e env h ha hw
  cases dr with
  | false =>
   simp only [cCode] at hw
   split at hw
   ·rename_i l hl
    simp only [wpC] at hw
    obtain ⟨env2,h2,e2,r1,r2,r3⟩:=q9R _ hl ha hw
    exact ⟨_,env2,h2,e2,by simp only [aCode,r1],r2,r3⟩
   ·exact hw.elim
  | true =>
   simp only [cCode] at hw
   split at hw
   ·rename_i l hl
    simp only [wpC] at hw
    obtain ⟨env2,h2,ts,e2,r1,r2,r3,r4⟩:=q9S _ hl ha hw
    exact ⟨_,env2,h2,e2,by simp only [aCode,r1,r3,if_true],r2,r4⟩
   ·exact hw.elim
 | seq a b iha ihb =>
  intro bid Q e env h ha hw
  simp only [cCode,wpC] at hw
  obtain ⟨x,env1,h1,e1,r1,r2,r3⟩:=iha ha hw
  cases x with
  | normal =>
   obtain ⟨x,env2,h2,e2,s1,s2,s3⟩:=ihb r2 r3
   exact ⟨x,env2,h2,e2,by simp only [aCode,r1]; exact s1,s2,s3⟩
  | exit id=>exact ⟨_,env1,h1,e1,by simp only [aCode,r1],r2,r3⟩
  | ret=>exact ⟨_,env1,h1,e1,by simp only [aCode,r1],r2,r3⟩
 | cond t a b iha ihb =>
  intro bid Q e env h ha hw
  simp only [cCode,wpC] at hw
  split at hw
  ·rename_i v hv
   have hv':evalOperand pol env t=.t (.sc (.bool v)):=by rw [ha.eval]; exact hv
   cases v with
   | true =>
    obtain ⟨x,env2,h2,e2,s1,s2,s3⟩:=iha ha (by simpa using hw)
    exact ⟨x,env2,h2,e2,by simp only [aCode,hv',if_true]; exact s1,s2,s3⟩
   | false =>
    obtain ⟨x,env2,h2,e2,s1,s2,s3⟩:=ihb ha (by simpa using hw)
    exact ⟨x,env2,h2,e2,by simp only [aCode,hv',Bool.false_eq_true,if_false]; exact s1,s2,s3⟩
  ·exact hw.elim
 | block id c ih =>
  intro bid Q e env h ha hw
  simp only [cCode,wpC] at hw
  obtain ⟨x,env1,h1,e1,r1,r2,r3⟩:=ih ha hw
  cases x with
  | normal=>exact ⟨_,env1,h1,e1,by simp only [aCode,r1],r2,r3⟩
  | ret=>exact ⟨_,env1,h1,e1,by simp only [aCode,r1],r2,r3⟩
  | exit j =>
   simp only at r3
   split at r3
   ·rename_i hj
    exact ⟨_,env1,h1,e1,by simp only [aCode,r1,hj,if_true],r2,r3⟩
   ·rename_i hj
    exact ⟨_,env1,h1,e1,by simp only [aCode,r1,hj,if_false],r2,r3⟩
 | loop c ih =>
  intro bid Q e env h ha hw
  simp only [cCode,wpC] at hw
  simp only [aCode]
  exact q9T (body:=wpC P pol K I m f (cCode P pol f n bid c)) (fun ha hw=>ih ha hw) m ha hw
 | scope c ih =>
  intro bid Q e env h ha hw
  simp only [cCode] at hw
  simp only [aCode]
  exact ih ha hw
 | rangeFunc g params assign body _ _ =>
  intro bid Q e env h ha hw
  simp only [cCode,wpC] at hw
  have hg:evalOperand pol env g=(cSrc pol g).get e:=by rw [ha.eval]; rfl
  have henv:tidy (pol.live f bid) env=(List.range n).map (tidyF (pol.live f bid) e):=by
   have ht:=ha.tidy (pol.live f bid)
   apply List.ext_getElem?
   intro i
   rw [List.getElem?_map]
   by_cases hi:i < n
   ·have:=ht.get i
    rw [List.getD_eq_getElem?_getD,List.getElem?_eq_getElem (by rw [ht.len]; exact hi)] at this
    rw [List.getElem?_range hi,List.getElem?_eq_getElem (by rw [ht.len]; exact hi)]
    simpa using this
   ·rw [List.getElem?_eq_none (by rw [ht.len]; omega),List.getElem?_eq_none (by simp; omega)]
    rfl
  simp only [aCode,hg]
  split at hw
  ·rename_i gf args hcal
   simp only [hcal,henv]
   split at hw
   ·rename_i v h2 hI
    rw [hI]
    simp only
    split at hw
    ·rename_i e2 h3 hlo hs
     obtain ⟨env2,q1,q2⟩:=ha.shrink hs
     exact ⟨_,env2,h3,e2,by simp only [hlo,q1],q2,hw⟩
    ·rename_i e2 h3 hlo hs
     obtain ⟨env2,q1,q2⟩:=ha.shrink hs
     exact ⟨_,env2,h3,e2,by simp only [hlo,q1],q2,hw⟩
    ·rename_i id e2 h3 hlo hs
     obtain ⟨env2,q1,q2⟩:=ha.shrink hs
     exact ⟨_,env2,h3,e2,by simp only [hlo,q1],q2,hw⟩
    ·exact hw.elim
   ·exact hw.elim
  ·exact hw.elim
 | _=>intro bid Q e env h ha hw; exact hw.elim
theorem q9U {e:FEnv} {env:Env} {h:Heap} (ha:Agr n e env):∀ {rs:List ResultVar} {rs':List (Nat × Option (Bool × Nat))},cRes P rs=some rs'→aResults P env h rs=resF e h rs':=by
 intro rs
 induction rs with
 | nil=>intro rs' hc; simp [cRes] at hc; subst hc; rfl
 | cons r rs ih =>
  intro rs' hc
  cases r with
  | tmp t =>
   simp only [cRes] at hc
   split at hc
   ·rename_i l hl
    cases hc
    simp only [aResults,aResult,ih hl,resF,ha.get]
    cases resF e h l <;> rfl
   ·simp at hc
  | cell a t =>
   simp only [cRes] at hc
   split at hc
   ·rename_i b k l h1 h2 hl
    cases hc
    simp only [aResults,aResult,ih hl,resF,ha.get,q5H h1 h2]
    cases iLoad b k (e a) h <;> cases resF e h l <;> rfl
   ·simp at hc
theorem q9V {args:List AV} {k:Nat} (hk:args.length≤k):Agr k (envOf args) (args++List.replicate (k - args.length) .dead):=by
 refine ⟨by simp; omega,fun t=>?_⟩
 simp only [envOf,List.getD_eq_getElem?_getD]
 by_cases ht:t < args.length
 ·rw [List.getElem?_append_left ht]
 ·rw [List.getElem?_append_right (by omega),List.getElem?_eq_none (l:=args) (by omega),List.getElem?_replicate]
  split <;> rfl
def wpFn (P:Program) (pol:Pol) (K:Oracle) (I:Inl) (m:Nat) (f:FuncId) (F:FnIL) (args:List AV) (h:Heap) (Q:AV→Heap→Prop):Prop :=
 wpC P pol K I m f F.code (fun x e h=>match x with
  | .exit _=>False
  | _=>match resF e h F.results with
   | some vs=>Q (one vs) h
   | none=>False) (envOf args) h
theorem q5K {F:FnIL} {args:List AV} {h:Heap} {Q:AV→Heap→Prop} (hF:cFn P pol f=some F) (hl:args.length≤F.ntmps) (hw:wpFn P pol K I m f F args h Q):∃ v h',aBody P pol K I m f args h=some (v,h')∧Q v h':=by
 unfold cFn at hF
 split at hF
 ·rename_i fn hf
  split at hF
  ·rename_i c rs hc hr
   cases hF
   obtain ⟨x,env',h',e',r1,r2,r3⟩:=q3w c (q9V (k:=fn.ntmps) hl) hw
   have hres:=q9U (h:=h') r2 hr
   unfold aBody
   simp only [hf,hc]
   rw [r1]
   cases x with
   | exit id=>exact r3.elim
   | normal =>
    simp only at r3 ⊢
    split at r3
    ·rename_i vs hvs
     rw [hres,hvs]
     exact ⟨_,_,rfl,r3⟩
    ·exact r3.elim
   | ret =>
    simp only at r3 ⊢
    split at r3
    ·rename_i vs hvs
     rw [hres,hvs]
     exact ⟨_,_,rfl,r3⟩
    ·exact r3.elim
  ·simp at hF
 ·simp at hF
theorem q9W {F:FnIL} {args:List T} {r:T} (n d:Nat) (hF:cFn P pol f=some F) (hp:primT pol f args=none) (hl:args.length≤F.ntmps)
  (hw:wpFn P pol (ans P pol) (inl P pol (ans P pol) n d) n f F (args.map .t) [] (fun v h=>snap h allObj 20 v=some r)):ans P pol f args=some r:=by
 obtain ⟨v,h',h1,h2⟩:=q5K hF (by simpa using hl) hw
 refine q5v (n:=n) (d:=d) hp ?_
 unfold runTop
 rw [h1]
 exact h2
theorem q9X {F:FnIL} {args:List AV} {h:Heap} {n d:Nat} {Q:AV→Heap→Prop} (hF:cFn P pol f=some F) (hl:args.length≤F.ntmps) (hw:wpFn P pol K (inl P pol K n d) n f F args h Q) :
  ∃ v h',inl P pol K n (d+1) (.fn f) args h=some (v,h')∧Q v h':=q5K hF hl hw
end Go.Abs
