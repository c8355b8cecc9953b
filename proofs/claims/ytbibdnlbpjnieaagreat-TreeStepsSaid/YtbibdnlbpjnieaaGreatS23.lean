/- Part 23 of the proof of TreeSteps. -/
import Derived.Test.YtbibdnlbpjnieaaGreatS22
set_option linter.all false
set_option maxRecDepth 100000
set_option maxHeartbeats 4000000
namespace Go.Proofs.YtbibdnlbpjnieaaGreat
open Go Go.Abs
def trP (t:Tpo) (p:Nat):Prop:=p < 2*t.links.length∧stA t (frP t p).toNat=false∧stA t (toP t p).toNat=false
theorem q0S {t:Tpo} {p:Nat} (h:trP t p):p∈trunkL t (frP t p):=qja.2 ⟨h.1,rfl,h.2.2⟩
theorem q1d {t:Tpo} {p:Nat} (h:trP t p):trP t (bk p):=⟨bk_lt h.1,by rw [bk_fr]; exact h.2.2,by rw [bk_to]; exact h.2.1⟩
theorem q1B {t:Tpo} {n:Nat} {p:Nat} (hs:stA t n=false) (h:p∈trunkL t (n:Nat)):trP t p:=by
 obtain ⟨h1,h2,h3⟩:=qja.1 h
 exact ⟨h1,by rw [h2]; simpa using hs,h3⟩
def bsA (bs:List Bx) (n:Nat):Br:=(bs[n]?.getD zBx).b
def hAt (t:Tpo) (bs:List Bx) (p:Nat):Hd:=hrd (bsA bs (frP t p).toNat) (ixP t p)
def sntP (t:Tpo) (bs:List Bx) (p:Nat):Hd:=sentF (bsA bs (frP t p).toNat) (opF (bsA bs (frP t p).toNat)).t (ixP t p)
theorem q3I {t:Tpo} {p q:Nat} (hp:trP t p) (hq:trP t q) (hf:frP t p=frP t q) (hi:ixP t p=ixP t q):p=q:=by
 have h1:=(q0R (q0S hp)).2.1
 have h2:=(q0R (q0S hq)).2.1
 rw [hf,hi] at h1
 rw [h1] at h2
 exact Option.some.inj h2
theorem q1e {t:Tpo} {n:Nat} {i p:Nat} (h:(trunkL t (n:Nat))[i]? = some p):ixP t p=i:=by
 have hm:=List.mem_of_getElem? h
 have hf:frP t p=(n:Nat):=(qja.1 hm).2.1
 rw [← hf] at hm h
 obtain ⟨h1,h2,_⟩:=q0R hm
 have hs:=q3H t (frP t p)
 obtain ⟨hi,hx⟩:=List.getElem?_eq_some_iff.1 h
 obtain ⟨hj,hy⟩:=List.getElem?_eq_some_iff.1 h2
 rw [List.pairwise_iff_getElem] at hs
 rcases Nat.lt_trichotomy (ixP t p) i with h|h|h
 ·have:=hs _ _ hj hi h; omega
 ·exact h
 ·have:=hs _ _ hi hj h; omega
section
variable {w:Nw} (hok:okT w.t=true) (hbl:(w.bs.length:Int)=w.t.nodes)
include hok hbl
theorem q0T {bs:List Bx} (hv:vBs w bs) {p:Nat} (hp:trP w.t p):∃ n x,frP w.t p=((n:Nat):Int)∧n < w.bs.length∧bs[n]? = some x∧bsA bs n=x.b∧x.z=false∧VB w n x.b∧x.b.heard.length=(trunkL w.t n).length∧ixP w.t p < x.b.heard.length:=by
 have hn:=q1w hok hp.1
 obtain ⟨h1,h2⟩:=hn
 have hlt:(frP w.t p).toNat < bs.length:=by rw [hv.1]; omega
 refine ⟨(frP w.t p).toNat,bs[(frP w.t p).toNat],by omega,by omega,by simp [hlt],by simp [bsA,hlt],?_⟩
 have h3:=hv.2 _ bs[(frP w.t p).toNat] (by simp [hlt]) hp.2.1
 obtain ⟨h4,h5⟩:=h3
 have h6:=q0j h5.ok
 simp only [okL] at h6
 have h7:(bs[(frP w.t p).toNat]).b.ports.length=(trunkL w.t ((frP w.t p).toNat:Nat)).length:=by rw [h5.ports]; simp
 have h8:=(q0R (q0S hp)).1
 have h9:(((frP w.t p).toNat:Nat):Int)=frP w.t p:=by omega
 refine ⟨h4,h5,by omega,?_⟩
 rw [h9] at h7
 omega
theorem qi0 {bs:List Bx} (hv:vBs w bs) {p q:Nat} (hp:trP w.t p) (hq:trP w.t q) (m:Hd) :
  hAt w.t (rcvP w bs p m) q=if (m.is=true∧dnA w (p / 2)=false)∧q=bk p then rcvH (hAt w.t bs q) m else hAt w.t bs q:=by
 unfold rcvP
 by_cases hc:m.is=true∧dnA w (p / 2)=false
 ·rw [if_pos hc]
  obtain ⟨n,x,h1,h2,h3,h4,h5,h6,h7,h8⟩:=q0T hok hbl hv hq
  obtain ⟨n',x',k1,k2,k3,k4,k5,k6,k7,k8⟩:=q0T hok hbl hv (q1d hp)
  rw [bk_fr] at k1
  have hx':(bs[(toP w.t p).toNat]?.getD zBx).b=x'.b:=by rw [k1,Int.toNat_natCast,k3]; rfl
  rw [hx',k1,Int.toNat_natCast]
  by_cases hn:n=n'
  ·subst hn
   have hxx:x=x':=by rw [h3] at k3; exact Option.some.inj k3
   subst hxx
   have hlt:n < bs.length:=(List.getElem?_eq_some_iff.1 h3).1
   have e1:bsA (bs.set n (rcvB x.b (ixP w.t (bk p)) m)) n=putB x.b (x.b.heard.set (ixP w.t (bk p)) (rcvH (hrd x.b (ixP w.t (bk p))) m)):=by simp [bsA,hlt,rcvB]
   by_cases hqp:q=bk p
   ·rw [if_pos ⟨hc,hqp⟩]
    subst hqp
    simp only [hAt,h1,Int.toNat_natCast,e1,h4]
    simp [hrd,putB,k8]
   ·rw [if_neg (fun h=>hqp h.2)]
    have hne:ixP w.t (bk p)≠ixP w.t q:=fun h=>hqp (q3I hq (q1d hp) (by rw [h1,bk_fr,k1]) h.symm)
    simp only [hAt,h1,Int.toNat_natCast,e1,h4]
    simp only [hrd,putB]
    rw [List.getElem?_set_ne hne]
  ·have hqp:q≠bk p:=fun h=>hn (by rw [h,bk_fr,k1] at h1; omega)
   rw [if_neg (fun h=>hqp h.2)]
   simp only [hAt,h1,Int.toNat_natCast,bsA]
   rw [List.getElem?_set_ne (fun h=>hn h.symm)]
 ·rw [if_neg hc,if_neg (fun h=>hc h.1)]
omit hok hbl in
theorem qi1 {bs:List Bx} {p:Nat} (hp:trP w.t p) (m:Hd) {n:Nat} (hn:stA w.t n=true):(rcvP w bs p m)[n]? = bs[n]?:=by
 unfold rcvP
 split
 ·rw [List.getElem?_set_ne]
  intro h
  rw [← h,hp.2.2] at hn
  cases hn
 ·rfl
theorem qi2 (snt:Nat→Hd) (hs:∀ p,trP w.t p→(snt p).is=true→helloP (snt p)):∀ (l:List Nat),l.Pairwise (· ≠ ·)→(∀ p∈l,trP w.t p)→∀ bs,vBs w bs →
  vBs w (l.foldl (fun s p=>rcvP w s p (snt p)) bs)∧(∀ n,stA w.t n=true→(l.foldl (fun s p=>rcvP w s p (snt p)) bs)[n]? = bs[n]?) ∧
  ∀ q,trP w.t q→hAt w.t (l.foldl (fun s p=>rcvP w s p (snt p)) bs) q=if bk q∈l∧(snt (bk q)).is=true∧dnA w (q / 2)=false then rcvH (hAt w.t bs q) (snt (bk q)) else hAt w.t bs q:=by
 intro l
 induction l with
 | nil=>intro _ _ bs hv; exact ⟨hv,fun _ _=>rfl,fun q _=>by rw [if_neg (fun h=>by cases h.1)]; rfl⟩
 | cons p l ih =>
  intro hnd hm bs hv
  rw [List.pairwise_cons] at hnd
  have hp:=hm p (by simp)
  have hv2:=q3B hv (hs p hp) hp.2.2
  obtain ⟨i1,i2,i3⟩:=ih hnd.2 (fun q hq=>hm q (by simp [hq])) (rcvP w bs p (snt p)) hv2
  rw [List.foldl_cons]
  refine ⟨i1,fun n hn=>by rw [i2 n hn,qi1 hp _ hn],fun q hq=>?_⟩
  rw [i3 q hq,qi0 hok hbl hv hp hq]
  by_cases hqp:q=bk p
  ·have hb:bk q=p:=by rw [hqp,bk_bk]
   have hnl:bk q ∉ l:=fun h=>hnd.1 _ h hb.symm
   rw [if_neg (fun h=>hnl h.1)]
   have hh:p / 2=q / 2:=by rw [← hb,q6a]
   by_cases hc:(snt p).is=true∧dnA w (p / 2)=false
   ·rw [if_pos ⟨hc,hqp⟩,if_pos ⟨by rw [hb]; simp,by rw [hb,← hh]; exact hc⟩,hb]
   ·rw [if_neg (fun h=>hc h.1),if_neg (fun h=>hc (by rw [hb,← hh] at h; exact h.2))]
  ·have hb:bk q≠p:=fun h=>hqp (by rw [← h,bk_bk])
   rw [if_neg (c:=(_∧_)∧q=bk p) (fun h=>hqp h.2)]
   by_cases hc:bk q∈l∧(snt (bk q)).is=true∧dnA w (q / 2)=false
   ·rw [if_pos hc,if_pos ⟨by simp [hc.1],hc.2⟩]
   ·rw [if_neg hc,if_neg (fun h=>hc ⟨by have:=h.1; rw [List.mem_cons] at this; exact this.resolve_left hb,h.2⟩)]
omit hok hbl in
theorem qi3 {σ:Type} (g:σ→Nat→Nat→σ) (f:σ→Nat→σ) (l:List Nat) (h:∀ s i p,l[i]? = some p→g s i p=f s p) (s:σ):(List.range l.length).foldl (fun s i=>g s i (l[i]?.getD 0)) s=l.foldl f s:=by
 have e:l=(List.range l.length).map (fun i=>l[i]?.getD 0):=by
  apply List.ext_getElem
  ·simp
  ·intro i h1 h2; simp [h1]
 conv=>rhs; rw [e,List.foldl_map]
 refine q6d _ _ (fun s i hi=>?_)
 have hi:=List.mem_range.1 hi
 have:l[i]? = some l[i]:=by simp [hi]
 rw [this]
 exact h s i _ this
omit hok hbl in
theorem qi4 {σ:Type} {f:σ→Nat→σ} {g:σ→Nat→σ} {h:Nat→List Nat}:∀ (l:List Nat) (s:σ),(∀ s,∀ n∈l,f s n=(h n).foldl g s)→l.foldl f s=(l.flatMap h).foldl g s:=by
 intro l
 induction l with
 | nil=>intro s _; rfl
 | cons n l ih =>
  intro s hf
  rw [List.foldl_cons,List.flatMap_cons,List.foldl_append,ih _ (fun s m hm=>hf s m (by simp [hm])),hf s n (by simp)]
omit hok hbl in
theorem qi5 {bs0:List Bx} (hv:vBs w bs0) {n:Nat} (hn:n < w.bs.length) (hst:stA w.t n=false) (bs:List Bx):rcvL w (sentW w bs0) bs n=(trunkL w.t n).foldl (fun s p=>rcvP w s p (sntP w.t bs0 p)) bs:=by
 have hS:(sentW w bs0)[n]? = some (some (sends (bsA bs0 n))):=by
  rw [sentW,List.getElem?_map,List.getElem?_range hn,Option.map_some,sentAt,if_neg (by rw [hst]; simp)]; rfl
 obtain ⟨x,hx⟩:∃ x,bs0[n]? = some x:=⟨bs0[n]'(by rw [hv.1]; exact hn),by simp [hv.1,hn]⟩
 obtain ⟨_,hb⟩:=hv.2 n x hx hst
 have hbx:bsA bs0 n=x.b:=by simp [bsA,hx]
 rw [rcvL,hS]
 simp only [Option.getD_some]
 have hl:(sends (bsA bs0 n)).length=(trunkL w.t n).length:=by rw [hbx,sends]; simp [hb.ports]
 rw [hl]
 refine qi3 (fun s i p=>rcvP w s p ((sends (bsA bs0 n))[i]?.getD zH)) _ _ (fun s i p hp=>?_) bs
 have hm:=qja.1 (List.mem_of_getElem? hp)
 have hi:i < (trunkL w.t n).length:=(List.getElem?_eq_some_iff.1 hp).1
 have hpl:i < (bsA bs0 n).ports.length:=by rw [hbx,hb.ports]; simpa using hi
 have:(sends (bsA bs0 n))[i]?.getD zH=sntP w.t bs0 p:=by
  rw [sntP,hm.2.1,Int.toNat_natCast,q1e hp]
  simp [sends,hpl]
 simp only [this]
def trunkAll (w:Nw):List Nat:=(List.range w.bs.length).flatMap (fun n=>if stA w.t n=true then [] else trunkL w.t n)
theorem q6s {p:Nat}:p∈trunkAll w↔trP w.t p:=by
 simp only [trunkAll,List.mem_flatMap,List.mem_range]
 constructor
 ·rintro ⟨n,hn,h⟩
  split at h
  ·cases h
  ·rename_i hs
   exact q1B (by simpa using hs) h
 ·intro h
  have hn:=q1w hok h.1
  obtain ⟨h1,h2⟩:=hn
  refine ⟨(frP w.t p).toNat,by omega,?_⟩
  rw [if_neg (by rw [h.2.1]; simp)]
  have:=q0S h
  rwa [show (((frP w.t p).toNat:Nat):Int)=frP w.t p by omega]
omit hok hbl in
theorem qi6:(trunkAll w).Pairwise (· ≠ ·):=by
 rw [trunkAll,List.pairwise_flatMap]
 refine ⟨fun n _=>?_,?_⟩
 ·split
  ·exact .nil
  ·exact (q3H w.t n).imp (fun h=>by omega)
 ·refine List.pairwise_lt_range.imp (fun {a b} hab x hx y hy=>?_)
  split at hx
  ·cases hx
  split at hy
  ·cases hy
  have h1:=(qja.1 hx).2.1
  have h2:=(qja.1 hy).2.1
  intro he
  rw [he,h2] at h1
  omega
omit hok hbl in
theorem qi7 (bs:List Bx):∀ k,k≤bs.length→((List.range k).foldl (stS w.t tkL) bs).length=bs.length∧∀ n,((List.range k).foldl (stS w.t tkL) bs)[n]? = if n < k∧stA w.t n=false then (bs[n]?).map (fun x=>tkB x.b) else bs[n]?:=by
 intro k
 induction k with
 | zero=>intro _; exact ⟨rfl,fun n=>by rw [if_neg (fun h=>by omega)]; rfl⟩
 | succ k ih =>
  intro hk
  obtain ⟨i1,i2⟩:=ih (by omega)
  rw [List.range_succ,List.foldl_append,List.foldl_cons,List.foldl_nil]
  generalize (List.range k).foldl (stS w.t tkL) bs=S at *
  unfold stS
  by_cases hs:stA w.t k=true
  ·rw [if_pos hs]
   refine ⟨i1,fun n=>?_⟩
   rw [i2 n]
   by_cases hn:n=k
   ·subst hn; rw [if_neg (fun h=>by omega),if_neg (fun h=>by rw [hs] at h; cases h.2)]
   ·have:(n < k+1∧stA w.t n=false)↔(n < k∧stA w.t n=false):=by constructor <;> rintro ⟨h1,h2⟩ <;> exact ⟨by omega,h2⟩
    simp only [this]
  ·rw [if_neg hs]
   have hs':stA w.t k=false:=by simpa using hs
   refine ⟨by simp [tkL,i1],fun n=>?_⟩
   by_cases hn:n=k
   ·subst hn
    have h0:=i2 n
    rw [if_neg (fun h=>by omega)] at h0
    rw [if_pos ⟨by omega,hs'⟩,tkL,List.getElem?_set_self (by omega),h0]
    have:n < bs.length:=by omega
    simp [this]
   ·rw [tkL,List.getElem?_set_ne (fun h=>hn h.symm),i2 n]
    have:(n < k+1∧stA w.t n=false)↔(n < k∧stA w.t n=false):=by constructor <;> rintro ⟨h1,h2⟩ <;> exact ⟨by omega,h2⟩
    simp only [this]
omit hok hbl in
theorem qi8 (b:Br) (i:Nat):hrd (putB b (b.heard.map tickH)) i=tickH (hrd b i):=by
 simp only [hrd,putB,List.getElem?_map]
 cases b.heard[i]? with
 | none=>rfl
 | some x=>rfl
theorem q6t {bs:List Bx} (hv:vBs w bs):vBs w (rndL w bs)∧(∀ n,stA w.t n=true→(rndL w bs)[n]? = bs[n]?) ∧
  ∀ q,trP w.t q→hAt w.t (rndL w bs) q=tickH (if (sntP w.t bs (bk q)).is=true∧dnA w (q / 2)=false then rcvH (hAt w.t bs q) (sntP w.t bs (bk q)) else hAt w.t bs q):=by
 have hsnt:∀ p,trP w.t p→(sntP w.t bs p).is=true→helloP (sntP w.t bs p):=by
  intro p hp hi
  obtain ⟨n,x,h1,h2,h3,h4,h5,h6,h7,h8⟩:=q0T hok hbl hv hp
  have h9:=q0j h6.ok
  simp only [okL] at h9
  simp only [sntP,h1,Int.toNat_natCast,h4] at hi ⊢
  unfold sentF at hi ⊢
  split at hi
  ·rename_i h; rw [if_pos h]; exact q3F h6.ok (by omega)
  ·exact (by cases hi)
 have e1:(List.range w.bs.length).foldl (stS w.t (rcvL w (sentW w bs))) bs=(trunkAll w).foldl (fun s p=>rcvP w s p (sntP w.t bs p)) bs:=by
  refine qi4 _ _ (fun s n hn=>?_)
  unfold stS
  by_cases hs:stA w.t n=true
  ·rw [if_pos hs,if_pos hs]; rfl
  ·rw [if_neg hs,if_neg hs]
   exact qi5 hv (List.mem_range.1 hn) (by simpa using hs) s
 obtain ⟨r1,r2,r3⟩:=qi2 hok hbl (sntP w.t bs) hsnt (trunkAll w) qi6 (fun p hp=>(q6s hok hbl).1 hp) bs hv
 rw [← e1] at r1 r2 r3
 have e2:rndL w bs=(List.range w.bs.length).foldl (stS w.t tkL) ((List.range w.bs.length).foldl (stS w.t (rcvL w (sentW w bs))) bs):=rfl
 rw [e2]
 generalize (List.range w.bs.length).foldl (stS w.t (rcvL w (sentW w bs))) bs=B1 at *
 obtain ⟨t1,t2⟩:=qi7 (w:=w) B1 w.bs.length (by rw [r1.1]; exact Nat.le_refl _)
 have hv2:vBs w ((List.range w.bs.length).foldl (stS w.t tkL) B1):=by
  refine ⟨by rw [t1,r1.1],fun n x hx hs=>?_⟩
  rw [t2 n] at hx
  have hn:n < w.bs.length:=by
   refine Classical.byContradiction fun hn=>?_
   rw [if_neg (fun h=>hn h.1),List.getElem?_eq_none (by rw [r1.1]; omega)] at hx
   cases hx
  rw [if_pos ⟨hn,hs⟩,Option.map_eq_some_iff] at hx
  obtain ⟨y,hy,rfl⟩:=hx
  exact ⟨rfl,(r1.2 n y hy hs).2.tick⟩
 refine ⟨hv2,fun n hn=>?_,fun q hq=>?_⟩
 ·rw [t2 n,if_neg (fun h=>by rw [hn] at h; cases h.2),r2 n hn]
 ·obtain ⟨n,x,h1,h2,h3,h4,h5,h6,h7,h8⟩:=q0T hok hbl r1 hq
  have hst:stA w.t n=false:=by have:=hq.2.1; rwa [h1,Int.toNat_natCast] at this
  have h9:=r3 q hq
  have:(bk q∈trunkAll w∧(sntP w.t bs (bk q)).is=true∧dnA w (q / 2)=false)↔((sntP w.t bs (bk q)).is=true∧dnA w (q / 2)=false):=⟨fun h=>h.2,fun h=>⟨(q6s hok hbl).2 (q1d hq),h⟩⟩
  simp only [this] at h9
  rw [← h9]
  simp only [hAt,h1,Int.toNat_natCast]
  have e3:bsA ((List.range w.bs.length).foldl (stS w.t tkL) B1) n=putB x.b (x.b.heard.map tickH):=by
   rw [bsA,t2 n,if_pos ⟨h2,hst⟩,h3]; rfl
  rw [e3,qi8,h4]
end
end Go.Proofs.YtbibdnlbpjnieaaGreat
namespace Go.Proofs.YtbibdnlbpjnieaaGreat
open Go Go.Abs
structure VN (w:Nw):Prop where
 t:okT w.t=true
 rank:rankL w.t w.prios=true
 bl:(w.bs.length:Int)=w.t.nodes
 dl:w.down.length=w.t.links.length
 vb:vBs w w.bs
 qt:∀ q,trP w.t q→dnA w (q / 2)=true→(hAt w.t w.bs q).is=false
 st:∀ n x,w.bs[n]? = some x→stA w.t n=true→emptyB x.b=true∧(x.z=true→x.b=zBr)
theorem VN.ok {w:Nw} (h:VN w):okN w=true:=by
 simp only [okN,Bool.and_eq_true]
 refine ⟨h.t,h.rank,decide_eq_true h.bl,decide_eq_true h.dl,?_⟩
 rw [List.all_eq_true]
 intro n hn
 have hn:=List.mem_range.1 hn
 obtain ⟨x,hx⟩:∃ x,w.bs[n]? = some x:=⟨w.bs[n],by simp [hn]⟩
 have hbx:bxA w n=x:=by simp [bxA,hx]
 unfold soundN
 rw [hbx]
 by_cases hs:stA w.t n=true
 ·rw [if_pos hs]; exact (h.st n x hx hs).1
 ·rw [if_neg hs]
  have hs':stA w.t n=false:=by simpa using hs
  obtain ⟨h1,h2⟩:=h.vb.2 n x hx hs'
  simp only [Bool.and_eq_true]
  refine ⟨h2.ok,decide_eq_true ⟨h2.ip,h2.id⟩,decide_eq_true h2.ports,decide_eq_true h2.costs,?_⟩
  rw [quietB,List.all_eq_true]
  intro i hi
  have hi:=List.mem_range.1 hi
  have hp:(trunkL w.t (n:Nat))[i]? = some (trunkL w.t (n:Nat))[i]:=by simp [hi]
  rw [hp]
  generalize (trunkL w.t (n:Nat))[i]=p at hp
  have hm:=List.mem_of_getElem? hp
  have htr:=q1B hs' hm
  have hq:=h.qt p htr
  have hf:=(qja.1 hm).2.1
  rw [hAt,hf,Int.toNat_natCast,q1e hp] at hq
  have:bsA w.bs n=x.b:=by simp [bsA,hx]
  rw [this] at hq
  simp only [Option.getD_some]
  cases hd:dnA w (p / 2) with
  | false=>rfl
  | true=>rw [hq hd]; rfl
theorem VN.z {w:Nw} (h:VN w):zOk w:=by
 intro n hn hz
 obtain ⟨x,hx⟩:∃ x,w.bs[n]? = some x:=⟨w.bs[n],by simp [hn]⟩
 have hbx:bxA w n=x:=by simp [bxA,hx]
 rw [hbx] at hz ⊢
 by_cases hs:stA w.t n=true
 ·exact ⟨hs,(h.st n x hx hs).2 hz⟩
 ·have:=(h.vb.2 n x hx (by simpa using hs)).1
  rw [this] at hz; cases hz
theorem VN.of {w:Nw} (h:okN w=true) (hz:zOk w):VN w:=by
 have hO:=q0I h hz
 simp only [okN,Bool.and_eq_true] at h
 obtain ⟨_,_,_,_,h5⟩:=h
 have hso:∀ n x,w.bs[n]? = some x→soundN w n=true∧bxA w n=x:=by
  intro n x hx
  exact ⟨List.all_eq_true.1 h5 n (List.mem_range.2 (List.getElem?_eq_some_iff.1 hx).1),by simp [bxA,hx]⟩
 refine ⟨hO.t,hO.rank,hO.bl,hO.dl,hO.vb,fun q hq hd=>?_,fun n x hx hs=>?_⟩
 ·obtain ⟨n,x,h1,h2,h3,h4,h5,h6,h7,h8⟩:=q0T hO.t hO.bl hO.vb hq
  obtain ⟨k1,k2⟩:=hso n x h3
  have hst:stA w.t n=false:=by have:=hq.2.1; rwa [h1,Int.toNat_natCast] at this
  rw [soundN,if_neg (by rw [hst]; simp),k2] at k1
  simp only [Bool.and_eq_true] at k1
  have hqu:=k1.2.2.2.2
  rw [quietB,List.all_eq_true] at hqu
  have hix:=q0R (q0S hq)
  have h9:=hqu (ixP w.t q) (List.mem_range.2 (by rw [← h1]; exact hix.1))
  rw [← h1,hix.2.1] at h9
  simp only [Option.getD_some,hd,Bool.true_and,Bool.not_eq_true'] at h9
  rw [hAt,h1,Int.toNat_natCast,h4]
  exact h9
 ·obtain ⟨k1,k2⟩:=hso n x hx
  rw [soundN,if_pos hs,k2] at k1
  refine ⟨k1,fun hz'=>?_⟩
  have:=hz n (List.getElem?_eq_some_iff.1 hx).1 (by rw [k2]; exact hz')
  rw [k2] at this
  exact this.2
theorem VN.b6 {w:Nw} (h:VN w):∀ x∈w.bs,x.b.ports.length≤900∧x.b.costs.length≤900∧x.b.heard.length≤900:=by
 intro x hx
 obtain ⟨n,hn⟩:=List.mem_iff_getElem?.1 hx
 by_cases hs:stA w.t n=true
 ·have:=(h.st n x hn hs).1
  simp only [emptyB,decide_eq_true_eq] at this
  omega
 ·have:=q0j (h.vb.2 n x hn (by simpa using hs)).2.ok
  simp only [okL] at this
  omega
theorem q6u {w w':Nw} {bs:List Bx} (h1:w'.t=w.t) (h2:w'.prios=w.prios) (h3:w'.bs.length=w.bs.length) (h:vBs w bs):vBs w' bs:=by
 refine ⟨by rw [h.1,h3],fun n x hx hs=>?_⟩
 rw [h1] at hs
 obtain ⟨a,b⟩:=h.2 n x hx hs
 refine ⟨a,b.ok,?_,b.id,?_,?_⟩
 ·rw [b.ip]; simp only [prA,h2]
 ·rw [b.ports,h1]
 ·rw [b.costs,h1]
theorem q2z (t:Tpo) (bs:List Bx) (q:Nat):hAt t (bs.map cpX) q=hAt t bs q:=by
 have:∀ n,bsA (bs.map cpX) n=bsA bs n:=by
  intro n
  simp only [bsA,List.getElem?_map]
  cases bs[n]? with
  | none=>rfl
  | some x=>simp only [Option.map_some,Option.getD_some,cpX]; split <;> rfl
 simp only [hAt,this]
theorem q6v {bs:List Bx} {P:Bx→Prop} (hP:∀ x,P x→P (cpX x)) {n:Nat} {x:Bx} (hx:(bs.map cpX)[n]? = some x) (h:∀ y,bs[n]? = some y→P y):P x:=by
 rw [List.getElem?_map,Option.map_eq_some_iff] at hx
 obtain ⟨y,hy,rfl⟩:=hx
 exact hP y (h y hy)
theorem cpX_P (x:Bx) (h:emptyB x.b=true∧(x.z=true→x.b=zBr)):emptyB (cpX x).b=true∧((cpX x).z=true→(cpX x).b=zBr):=by
 unfold cpX
 split
 ·exact h
 ·exact ⟨h.1,fun h=>(by cases h)⟩
def rndW (w:Nw):Nw:=⟨w.t,w.prios,w.down,rndL w (w.bs.map cpX)⟩
theorem VN.rnd {w:Nw} (h:VN w):VN (rndW w):=by
 have hv:=q1A h.vb
 obtain ⟨r1,r2,r3⟩:=q6t h.t h.bl hv
 have hl:(rndW w).bs.length=w.bs.length:=r1.1
 refine ⟨h.t,h.rank,?_,h.dl,q6u (w:=w) rfl rfl hl r1,fun q hq hd=>?_,fun n x hx hs=>?_⟩
 ·show ((rndW w).bs.length:Int)=w.t.nodes
  rw [hl]; exact h.bl
 ·have h1:=r3 q hq
  have hd':dnA w (q / 2)=true:=hd
  rw [if_neg (fun h=>by rw [hd'] at h; cases h.2),q2z] at h1
  have h2:=h.qt q hq hd'
  show (hAt w.t (rndL w (w.bs.map cpX)) q).is=false
  rw [h1,tickH,if_pos h2,h2]
 ·have hx':(rndL w (w.bs.map cpX))[n]? = some x:=hx
  rw [r2 n hs] at hx'
  exact q6v (P:=fun x=>emptyB x.b=true∧(x.z=true→x.b=zBr)) cpX_P hx' (fun y hy=>h.st n y hy hs)
theorem qi9 {w:Nw} (hok:okT w.t=true) (hbl:(w.bs.length:Int)=w.t.nodes) (j:Nat) {n:Nat} (hn:n < w.bs.length) (hst:stA w.t n=false) {bs:List Bx} (hv:vBs w bs) :
  vBs w (fgL w j bs n)∧(∀ m,m≠n→(fgL w j bs n)[m]? = bs[m]?)∧∀ q,trP w.t q→frP w.t q=(n:Nat)→hAt w.t (fgL w j bs n) q=if q / 2=j then zH else hAt w.t bs q:=by
 have key:∀ k,k≤(trunkL w.t n).length→vBs w ((List.range k).foldl (fun s i=>if ((trunkL w.t n)[i]?.getD 0) / 2=j then s.set n (fgB (s[n]?.getD zBx).b i) else s) bs)∧(∀ m,m≠n→((List.range k).foldl (fun s i=>if ((trunkL w.t n)[i]?.getD 0) / 2=j then s.set n (fgB (s[n]?.getD zBx).b i) else s) bs)[m]? = bs[m]?) ∧
   ∀ q,trP w.t q→frP w.t q=(n:Nat)→hAt w.t ((List.range k).foldl (fun s i=>if ((trunkL w.t n)[i]?.getD 0) / 2=j then s.set n (fgB (s[n]?.getD zBx).b i) else s) bs) q=if ixP w.t q < k∧q / 2=j then zH else hAt w.t bs q:=by
  intro k
  induction k with
  | zero=>intro _; exact ⟨hv,fun _ _=>rfl,fun q _ _=>by rw [if_neg (fun h=>by omega)]; rfl⟩
  | succ k ih =>
   intro hk
   obtain ⟨i1,i2,i3⟩:=ih (by omega)
   rw [List.range_succ,List.foldl_append,List.foldl_cons,List.foldl_nil]
   generalize (List.range k).foldl (fun s i=>if ((trunkL w.t n)[i]?.getD 0) / 2=j then s.set n (fgB (s[n]?.getD zBx).b i) else s) bs=S at *
   have hp:(trunkL w.t n)[k]? = some (trunkL w.t n)[k]:=by simp [show k < (trunkL w.t n).length by omega]
   generalize (trunkL w.t n)[k]=p at hp
   rw [hp]
   simp only [Option.getD_some]
   have hptr:=q1B hst (List.mem_of_getElem? hp)
   have hpf:=(qja.1 (List.mem_of_getElem? hp)).2.1
   have hpi:=q1e hp
   by_cases hj:p / 2=j
   ·rw [if_pos hj]
    have hv2:vBs w (S.set n (fgB (S[n]?.getD zBx).b k)):=by
     have:=(q3G (w:=w) (j:=j) (n:=n) (i:=k) (p:=p) (s:=(S,0)) i1 (Nat.zero_le _) hst).1
     rw [fgQ,if_pos hj] at this
     exact this
    refine ⟨hv2,fun m hm=>by rw [List.getElem?_set_ne (fun h=>hm h.symm),i2 m hm],fun q hq hf=>?_⟩
    obtain ⟨n',x,h1,h2,h3,h4,h5,h6,h7,h8⟩:=q0T hok hbl i1 hq
    rw [hf] at h1
    obtain rfl:n=n':=by omega
    have hlt:n < S.length:=(List.getElem?_eq_some_iff.1 h3).1
    have e1:bsA (S.set n (fgB (S[n]?.getD zBx).b k)) n=putB x.b (x.b.heard.set k zH):=by rw [bsA,List.getElem?_set_self hlt,h3]; rfl
    have h9:=i3 q hq hf
    rw [hAt,hf,Int.toNat_natCast,h4] at h9
    rw [hAt,hf,Int.toNat_natCast,e1]
    by_cases hqk:ixP w.t q=k
    ·have hqp:q=p:=q3I hq hptr (by rw [hf,hpf]) (by rw [hqk,hpi])
     rw [if_pos ⟨by omega,by rw [hqp]; exact hj⟩]
     rw [hqk] at h8 ⊢
     simp [hrd,putB,h8]
    ·have e2:hrd (putB x.b (x.b.heard.set k zH)) (ixP w.t q)=hrd x.b (ixP w.t q):=by
      simp only [hrd,putB]
      rw [List.getElem?_set_ne (fun h=>hqk h.symm)]
     rw [e2,h9]
     have:(ixP w.t q < k+1∧q / 2=j)↔(ixP w.t q < k∧q / 2=j):=by constructor <;> rintro ⟨h1,h2⟩ <;> exact ⟨by omega,h2⟩
     simp only [this]
   ·rw [if_neg hj]
    refine ⟨i1,i2,fun q hq hf=>?_⟩
    rw [i3 q hq hf]
    by_cases hqk:ixP w.t q=k
    ·have hqp:q=p:=q3I hq hptr (by rw [hf,hpf]) (by rw [hqk,hpi])
     rw [if_neg (fun h=>hj (by rw [← hqp]; exact h.2)),if_neg (fun h=>hj (by rw [← hqp]; exact h.2))]
    ·have:(ixP w.t q < k+1∧q / 2=j)↔(ixP w.t q < k∧q / 2=j):=by constructor <;> rintro ⟨h1,h2⟩ <;> exact ⟨by omega,h2⟩
     simp only [this]
 obtain ⟨k1,k2,k3⟩:=key _ (Nat.le_refl _)
 refine ⟨k1,k2,fun q hq hf=>?_⟩
 have:=k3 q hq hf
 have hix:=(q0R (q0S hq)).1
 rw [hf] at hix
 simp only [hix,true_and] at this
 exact this
theorem q6w {w:Nw} (h:VN w) (j:Nat):vBs w (cutL w j)∧(∀ n,stA w.t n=true→(cutL w j)[n]? = (w.bs.map cpX)[n]?)∧∀ q,trP w.t q→hAt w.t (cutL w j) q=if q / 2=j then zH else hAt w.t w.bs q:=by
 have hv:=q1A h.vb
 have key:∀ k,k≤w.bs.length→vBs w ((List.range k).foldl (stS w.t (fgL w j)) (w.bs.map cpX))∧(∀ n,stA w.t n=true→((List.range k).foldl (stS w.t (fgL w j)) (w.bs.map cpX))[n]? = (w.bs.map cpX)[n]?) ∧
   ∀ q,trP w.t q→hAt w.t ((List.range k).foldl (stS w.t (fgL w j)) (w.bs.map cpX)) q=if (frP w.t q < (k:Nat))∧q / 2=j then zH else hAt w.t w.bs q:=by
  intro k
  induction k with
  | zero =>
   intro _
   refine ⟨hv,fun _ _=>rfl,fun q hq=>?_⟩
   have:=(q1w h.t hq.1).1
   rw [if_neg (fun h=>by omega)]
   exact q2z _ _ _
  | succ k ih =>
   intro hk
   obtain ⟨i1,i2,i3⟩:=ih (by omega)
   rw [List.range_succ,List.foldl_append,List.foldl_cons,List.foldl_nil]
   generalize (List.range k).foldl (stS w.t (fgL w j)) (w.bs.map cpX)=S at *
   unfold stS
   by_cases hs:stA w.t k=true
   ·rw [if_pos hs]
    refine ⟨i1,i2,fun q hq=>?_⟩
    rw [i3 q hq]
    have hne:frP w.t q≠(k:Nat):=fun h=>by have:=hq.2.1; rw [h,Int.toNat_natCast,hs] at this; cases this
    have:(frP w.t q < ((k+1:Nat):Int)∧q / 2=j)↔(frP w.t q < (k:Nat)∧q / 2=j):=by constructor <;> rintro ⟨h1,h2⟩ <;> exact ⟨by omega,h2⟩
    simp only [this]
   ·rw [if_neg hs]
    have hs':stA w.t k=false:=by simpa using hs
    obtain ⟨f1,f2,f3⟩:=qi9 h.t h.bl j (show k < w.bs.length by omega) hs' i1
    refine ⟨f1,fun n hn=>by rw [f2 n (fun h=>by rw [h,hs'] at hn; cases hn),i2 n hn],fun q hq=>?_⟩
    by_cases hf:frP w.t q=(k:Nat)
    ·rw [f3 q hq hf,i3 q hq]
     by_cases hj:q / 2=j
     ·rw [if_pos hj,if_pos ⟨by omega,hj⟩]
     ·rw [if_neg hj,if_neg (fun h=>hj h.2),if_neg (fun h=>hj h.2)]
    ·have e1:hAt w.t (fgL w j S k) q=hAt w.t S q:=by
      simp only [hAt,bsA]
      rw [f2 _ (fun h'=>hf (by have:=(q1w h.t hq.1).1; omega))]
     rw [e1,i3 q hq]
     have:(frP w.t q < ((k+1:Nat):Int)∧q / 2=j)↔(frP w.t q < (k:Nat)∧q / 2=j):=by constructor <;> rintro ⟨h1,h2⟩ <;> exact ⟨by omega,h2⟩
     simp only [this]
 obtain ⟨k1,k2,k3⟩:=key _ (Nat.le_refl _)
 refine ⟨k1,k2,fun q hq=>?_⟩
 have h1:=k3 q hq
 have h2:=q1w h.t hq.1
 have h3:frP w.t q < (w.bs.length:Nat):=by rw [h.bl]; exact h2.2
 simp only [h3,true_and] at h1
 exact h1
theorem VN.cut {w:Nw} (h:VN w) (j:Nat):VN ⟨w.t,w.prios,w.down.set j true,cutL w j⟩:=by
 obtain ⟨c1,c2,c3⟩:=q6w h j
 refine ⟨h.t,h.rank,by show ((cutL w j).length:Int)=_; rw [c1.1]; exact h.bl,by simpa using h.dl,q6u (w:=w) rfl rfl c1.1 c1,fun q hq hd=>?_,fun n x hx hs=>?_⟩
 ·have h1:=c3 q hq
  show (hAt w.t (cutL w j) q).is=false
  rw [h1]
  split
  ·rfl
  ·rename_i hj
   refine h.qt q hq ?_
   simp only [dnA] at hd ⊢
   rw [List.getElem?_set_ne (fun h=>hj h.symm)] at hd
   exact hd
 ·have hx':(cutL w j)[n]? = some x:=hx
  rw [c2 n hs] at hx'
  exact q6v (P:=fun x=>emptyB x.b=true∧(x.z=true→x.b=zBr)) cpX_P hx' (fun y hy=>h.st n y hy hs)
theorem qia (w:Nw):(newL w).length=w.bs.length∧∀ n,(newL w)[n]? = if n < w.bs.length∧stA w.t n=false then some (newN w n) else w.bs[n]?:=by
 have key:∀ k,k≤w.bs.length→((List.range k).foldl (stS w.t (fun s n=>s.set n (newN w n))) w.bs).length=w.bs.length∧∀ n,((List.range k).foldl (stS w.t (fun s n=>s.set n (newN w n))) w.bs)[n]? = if n < k∧stA w.t n=false then some (newN w n) else w.bs[n]?:=by
  intro k
  induction k with
  | zero=>intro _; exact ⟨rfl,fun n=>by rw [if_neg (fun h=>by omega)]; rfl⟩
  | succ k ih =>
   intro hk
   obtain ⟨i1,i2⟩:=ih (by omega)
   rw [List.range_succ,List.foldl_append,List.foldl_cons,List.foldl_nil]
   generalize (List.range k).foldl (stS w.t (fun s n=>s.set n (newN w n))) w.bs=S at *
   unfold stS
   have hiff:∀ n,n≠k→((n < k+1∧stA w.t n=false)↔(n < k∧stA w.t n=false)):=by intro n hn; constructor <;> rintro ⟨h1,h2⟩ <;> exact ⟨by omega,h2⟩
   by_cases hs:stA w.t k=true
   ·rw [if_pos hs]
    refine ⟨i1,fun n=>?_⟩
    rw [i2 n]
    by_cases hn:n=k
    ·subst hn; rw [if_neg (fun h=>by omega),if_neg (fun h=>by rw [hs] at h; cases h.2)]
    ·simp only [hiff n hn]
   ·rw [if_neg hs]
    refine ⟨by simp [i1],fun n=>?_⟩
    by_cases hn:n=k
    ·subst hn; rw [if_pos ⟨by omega,by simpa using hs⟩,List.getElem?_set_self (by omega)]
    ·rw [List.getElem?_set_ne (fun h=>hn h.symm),i2 n]
     simp only [hiff n hn]
 exact key _ (Nat.le_refl _)
theorem VN.new {t:Tpo} {prios:List Int} (h:okT t=true) (h2:rankL t prios=true):VN ⟨t,prios,List.replicate t.links.length false,newL (newW t prios)⟩:=by
 obtain ⟨z1,z2,z3⟩:=q06 h
 obtain ⟨n1,n2⟩:=qia (newW t prios)
 have hl:(newW t prios).bs.length=t.nodes.toNat:=by simp [newW]
 rw [hl] at n1 n2
 have hd:∀ i,(dnA ⟨t,prios,List.replicate t.links.length false,newL (newW t prios)⟩ i)=false:=by
  intro i
  simp only [dnA]
  rw [List.getElem?_replicate]
  split <;> rfl
 refine ⟨h,h2,by show ((newL (newW t prios)).length:Int)=_; rw [n1]; show ((t.nodes.toNat:Nat):Int)=t.nodes; omega,by simp,⟨rfl,fun n x hx hs=>?_⟩,fun q hq hq2=>(by rw [hd] at hq2; cases hq2),fun n x hx hs=>?_⟩
 ·have hx':(newL (newW t prios))[n]? = some x:=hx
  have hlt:n < t.nodes.toNat:=by rw [← n1]; exact (List.getElem?_eq_some_iff.1 hx').1
  have hs':stA (newW t prios).t n=false:=hs
  rw [n2 n,if_pos ⟨hlt,hs'⟩] at hx'
  obtain rfl:=Option.some.inj hx'
  have hv:=q6r (w:=newW t prios) h h2 (n:=n) (by show (n:Int) < t.nodes; omega)
  exact ⟨rfl,hv.ok,hv.ip,hv.id,hv.ports,hv.costs⟩
 ·have hx':(newL (newW t prios))[n]? = some x:=hx
  have hs':stA (newW t prios).t n=true:=hs
  rw [n2 n,if_neg (fun h=>by rw [hs'] at h; cases h.2)] at hx'
  have hxz:x=zBx:=by
   have h3:x∈(newW t prios).bs:=List.mem_of_getElem? hx'
   simp only [newW] at h3
   exact List.eq_of_mem_replicate h3
  rw [hxz]
  exact ⟨rfl,fun _=>rfl⟩
end Go.Proofs.YtbibdnlbpjnieaaGreat
namespace Go.Proofs.YtbibdnlbpjnieaaGreat
structure Ed where
 a:Nat
 b:Nat
 w:Int
 deriving DecidableEq
def iter {σ:Type} (f:σ→σ):Nat→σ→σ
 | 0,s=>s
 | n+1,s=>f (iter f n s)
inductive Cn (E:List Ed):Nat→Nat→Prop
 | refl (i:Nat):Cn E i i
 | step {e:Ed} {k:Nat}:e∈E→Cn E e.b k→Cn E e.a k
theorem Cn.trans {E:List Ed} {i j k:Nat} (h1:Cn E i j) (h2:Cn E j k):Cn E i k:=by
 induction h1 with
 | refl=>exact h2
 | step he _ ih=>exact .step he (ih h2)
def symE (E:List Ed):Prop:=∀ e∈E,(⟨e.b,e.a,e.w⟩:Ed)∈E
theorem Cn.symm {E:List Ed} (hs:symE E) {i j:Nat} (h:Cn E i j):Cn E j i:=by
 induction h with
 | refl=>exact .refl _
 | step he _ ih=>exact ih.trans (.step (e:=⟨_,_,_⟩) (hs _ he) (.refl _))
theorem Cn.const {E:List Ed} {α:Type} {f:Nat→α} (hf:∀ e∈E,f e.a=f e.b) {i j:Nat} (h:Cn E i j):f i=f j:=by
 induction h with
 | refl=>rfl
 | step he _ ih=>rw [hf _ he,ih]
theorem Cn.lt {E:List Ed} {N:Nat} (hE:∀ e∈E,e.a < N∧e.b < N) {i j:Nat} (h:Cn E i j) (hi:i < N):j < N:=by
 induction h with
 | refl=>exact hi
 | step he _ ih=>exact ih (hE _ he).2
section
variable {N:Nat} {E:List Ed} (hE:∀ e∈E,e.a < N∧e.b < N∧e.a≠e.b∧1≤e.w) {d0:Nat→Int} (h0:∀ i,0≤d0 i)
include hE h0
end
structure Dst (κ:Nat→Int) (E:List Ed) (N:Nat) (F:Nat→Nat) (D:Nat→Int):Prop where
 edge:∀ e∈E,D e.a≤D e.b+e.w
 top:∀ i,i < N→F i=i→D i=0
 nn:∀ i,i < N→0≤D i
 par:∀ i,i < N→F i≠i→∃ e∈E,e.a=i∧D i=D e.b+e.w
theorem Dst.le {κ:Nat→Int} {E:List Ed} {N:Nat} {F:Nat→Nat} {D D':Nat→Int} (hE:∀ e∈E,e.a < N∧e.b < N∧e.a≠e.b∧1≤e.w) (h:Dst κ E N F D) (h':Dst κ E N F D'):∀ (n i:Nat),i < N→D' i≤n→D i≤D' i:=by
 intro n
 induction n with
 | zero =>
  intro i hi hn
  by_cases hF:F i=i
  ·rw [h.top i hi hF,h'.top i hi hF]; exact Int.le_refl _
  ·obtain ⟨e,he,h1,h2⟩:=h'.par i hi hF
   have:=h'.nn e.b (hE e he).2.1
   have:=(hE e he).2.2.2
   omega
 | succ n ih =>
  intro i hi hn
  by_cases hF:F i=i
  ·rw [h.top i hi hF,h'.top i hi hF]; exact Int.le_refl _
  ·obtain ⟨e,he,h1,h2⟩:=h'.par i hi hF
   have h3:=(hE e he).2.2.2
   have h4:=ih e.b (hE e he).2.1 (by omega)
   have h5:=h.edge e he
   rw [h1] at h5
   omega
theorem Dst.eq {κ:Nat→Int} {E:List Ed} {N:Nat} {F:Nat→Nat} {D D':Nat→Int} (hE:∀ e∈E,e.a < N∧e.b < N∧e.a≠e.b∧1≤e.w) (h:Dst κ E N F D) (h':Dst κ E N F D') (i:Nat) (hi:i < N):D i=D' i:=by
 have h1:=h.le hE h' (D' i).toNat i hi (by omega)
 have h2:=h'.le hE h (D i).toNat i hi (by omega)
 omega
end Go.Proofs.YtbibdnlbpjnieaaGreat
namespace Go.Proofs.YtbibdnlbpjnieaaGreat
structure Msg where
 r:Int
 c:Int
 s:Int
 p:Int
 g:Int
def mlt (x y:Msg):Prop:=x.r < y.r∨x.r=y.r∧(x.c < y.c∨x.c=y.c∧(x.s < y.s∨x.s=y.s∧x.p < y.p))
instance (x y:Msg):Decidable (mlt x y):=inferInstanceAs (Decidable (_∨_))
structure Top where
 r:Int
 c:Int
 via:Option Nat
 g:Int
def clmM (t:Top) (k:Int) (q:Nat):Msg:=⟨t.r,t.c,k,(q:Nat),t.g⟩
def roleM (h:Option Msg) (t:Top) (k:Int) (q:Nat):Int:=if t.via=some q then 1 else if h=none∨∃ m,h=some m∧mlt (clmM t k q) m then 2 else 3
def rcvM:Option Msg→Option Msg→Option Msg
 | o,none=>o
 | none,some h=>some h
 | some o,some h=>if (o.s=h.s∧o.p=h.p)∨¬ mlt o h then some h else some o
def tickM:Option Msg→Option Msg
 | none=>none
 | some m=>if 20 < m.g+1 then none else some ⟨m.r,m.c,m.s,m.p,m.g+1⟩
def lx3 (a b c a' b' c':Int):Prop:=a < a'∨a=a'∧(b < b'∨b=b'∧c < c')
instance (a b c a' b' c':Int):Decidable (lx3 a b c a' b' c'):=inferInstanceAs (Decidable (_∨_))
structure Net where
 N:Nat
 U:Nat→Prop
 fr:Nat→Nat
 to:Nat→Nat
 bk:Nat→Nat
 per:Nat→Int
 κ:Nat→Int
 F:Nat→Nat
 D:Nat→Int
 bst:Nat→Nat
structure NetOk (X:Net):Prop where
 fr:∀ q,X.U q→X.fr q < X.N
 to:∀ q,X.U q→X.to q < X.N
 bk:∀ q,X.U q→X.U (X.bk q)∧X.fr (X.bk q)=X.to q∧X.to (X.bk q)=X.fr q∧X.bk (X.bk q)=q∧X.per (X.bk q)=X.per q
 per:∀ q,X.U q→1≤X.per q
 ne:∀ q,X.U q→X.fr q≠X.to q
 inj:∀ i j,i < X.N→j < X.N→X.κ i=X.κ j→i=j
 same:∀ q,X.U q→X.F (X.fr q)=X.F (X.to q)
 le:∀ i,i < X.N→X.κ (X.F i)≤X.κ i∧X.F i < X.N
 edge:∀ q,X.U q→X.D (X.fr q)≤X.D (X.to q)+X.per q
 root:∀ i,i < X.N→X.F i=i→X.D i=0
 nn:∀ i,i < X.N→0≤X.D i
 bd:∀ i,i < X.N→X.D i≤1048576
 N:X.N≤12
 bst:∀ i,i < X.N→X.F i≠i→X.U (X.bst i)∧X.fr (X.bst i)=i∧X.D i=X.D (X.to (X.bst i))+X.per (X.bst i) ∧
  ∀ q,X.U q→X.fr q=i→q≠X.bst i→lx3 (X.D (X.to (X.bst i))+X.per (X.bst i)) (X.κ (X.to (X.bst i))) (X.bk (X.bst i):Nat) (X.D (X.to q)+X.per q) (X.κ (X.to q)) (X.bk q:Nat)
def leadsM (X:Net) (H:Nat→Option Msg) (q:Nat) (m:Msg):Prop:=H q=some m∧m.c+X.per q≤1048576∧m.r < X.κ (X.fr q)
def offM (X:Net) (q:Nat) (m:Msg):Msg:=⟨m.r,m.c+X.per q,m.s,m.p,m.g⟩
def TopOk (X:Net) (H:Nat→Option Msg) (n:Nat) (t:Top):Prop :=
 (t=⟨X.κ n,0,none,0⟩∧∀ q m,X.U q→X.fr q=n→¬ leadsM X H q m) ∨
 ∃ q m,X.U q∧X.fr q=n∧leadsM X H q m∧t=⟨m.r,m.c+X.per q,some q,m.g⟩∧∀ q' m',X.U q'→X.fr q'=n→leadsM X H q' m'→¬ mlt (offM X q' m') (offM X q m)
def sentM (h:Option Msg) (t:Top) (k:Int) (q:Nat):Option Msg:=if roleM h t k q=2 then some (clmM t k q) else none
structure Real (X:Net) (q:Nat) (m:Msg):Prop where
 s:m.s=X.κ (X.to q)
 p:m.p=(X.bk q:Nat)
 r:X.κ (X.F (X.to q))≤m.r
 c:m.r=X.κ (X.F (X.to q))→X.D (X.to q)≤m.c
section
variable (X:Net) (ok:NetOk X) (H:Nat→Nat→Option Msg) (t:Nat→Nat→Top)
 (hg:∀ T q m,X.U q→H T q=some m→0≤m.g∧m.g≤20)
 (ht:∀ T q,X.U q→TopOk X (H T) (X.fr q) (t T (X.fr q)))
 (hs:∀ T q,X.U q→H (T+1) q=tickM (rcvM (H T q) (sentM (H T (X.bk q)) (t T (X.to q)) (X.κ (X.to q)) (X.bk q))))
include ok in
include ok hg ht hs in
include ok hg ht hs in
include ok hg ht hs in
include ok hg ht hs in
include ok hg ht hs in
end
end Go.Proofs.YtbibdnlbpjnieaaGreat
namespace Go.Proofs.YtbibdnlbpjnieaaGreat
open Go Go.Abs
structure Bnd (h:Hd):Prop where
 a:0≤h.a∧h.a < 16
 b:0≤h.b∧h.b < 16
 c:0≤h.c∧h.c < 4194304
 d:0≤h.d∧h.d < 16
 e:0≤h.e∧h.e < 16
 f:0≤h.f∧h.f < 64
end Go.Proofs.YtbibdnlbpjnieaaGreat
namespace Go.Proofs.YtbibdnlbpjnieaaGreat
open Go Go.Abs
def asV (w:Nw) (r:Nat→Nat→Int) (n p:Nat):Int:=if dnA w (p / 2)=true then 0 else if stA w.t (toP w.t p).toNat=true then 2 else r n p
def asQ (w:Nw) (r:Nat→Nat→Int) (n:Nat) (s:List Int × Nat) (p:Nat):List Int × Nat:=(s.1.set p (asV w r n p),2*w.t.links.length)
def asN (w:Nw) (r:Nat→Nat→Int) (s:List Int × Nat) (n:Nat):List Int × Nat:=(portsL w.t n).foldl (asQ w r n) s
def asI (w:Nw) (s:List Int × Nat):Prop:=s.1.length=2*w.t.links.length∧s.2≤2*w.t.links.length
theorem q6x {w:Nw} {r:Nat→Nat→Int} {n p:Nat} {s:List Int × Nat} (h:asI w s):asI w (asQ w r n s p):=⟨by simp [asQ,h.1],Nat.le_refl _⟩
theorem qib {w:Nw} {r:Nat→Nat→Int} {n:Nat}:∀ {s:List Int × Nat},asI w s→asI w (asN w r s n):=by
 unfold asN
 intro s
 induction portsL w.t n generalizing s with
 | nil=>intro h; exact h
 | cons p l ih=>intro h; rw [List.foldl_cons]; exact ih (q6x h)
section
variable (f:Fl) (w:Nw) (g:FuncId) (cap:List T) (r:Nat→Nat→Int)
noncomputable def lpAs (rf:Code × Code) (E:FEnv) (busy:Bool):AObj:=.loop 42 (lpEnv 61 (tidyF (some [2,3,5]) E)) [18,19] rf.1 rf.2 busy none
noncomputable def hpAs (w:Nw) (rf:Code × Code) (E:FEnv) (busy:Bool) (s:List Int × Nat):Heap :=
 [.row 1 ((s.1.map I).map .t) s.2,.row 1 [.ms 0 (2*w.t.links.length) 0 (2*w.t.links.length) 1 true] 1,lpAs rf E busy]
theorem q6y (rf:Code × Code) (E:FEnv) (hE:E 2=.t (.ip (nwC f w))∧E 3=.t (.ip [.fn (.func g) [] cap])∧E 5=.ref 1 1 0 0) (busy:Bool) (h:Heap) (q:Nat) (hq:3≤q):frzObj h (fromB q) (lpAs rf E busy)=some (lpAs rf E busy):=by
 have f1:decide (q≤1)=false:=decide_eq_false (by omega)
 rw [lpAs,q0y]
 simp only [go_sem,hE,f1]
theorem qic (rf:Code × Code) (E:FEnv) (hE:E 2=.t (.ip (nwC f w))∧E 3=.t (.ip [.fn (.func g) [] cap])∧E 5=.ref 1 1 0 0) (busy:Bool) (s:List Int × Nat) (h:Heap) (q:Nat) (hq:3≤q):mapO (frzObj h (fromB q)) (hpAs w rf E busy s)=some (hpAs w rf E busy s):=by
 have f0:decide (q≤0)=false:=decide_eq_false (by omega)
 have a1:avoidAll (fromB q) [.ms 0 (2*w.t.links.length) 0 (2*w.t.links.length) 1 true]=true:=by simp [avoidAll,avoid,fromB]; omega
 simp only [hpAs,mapO,q6y f w g cap rf E hE busy h q hq,q08,q0e a1]
variable (hok:okT w.t=true) (hbl:(w.bs.length:Int)=w.t.nodes) (hdl:w.down.length=w.t.links.length)
 (hgi:pol.inl g 42 33=false) (hgf:pol.fresh g 42 33=false)
 (hg:∀ n p,n < w.bs.length→stA w.t n=false→p∈trunkL w.t n→dnA w (p / 2)=false→ans Tryz.prog pol g (I (n:Nat)::I (p:Nat)::cap)=some (I (r n p)))
include hok hbl hdl hgi hgf hg
theorem qid (rf:Code × Code) (E:FEnv) (hE:E 2=.t (.ip (nwC f w))∧E 3=.t (.ip [.fn (.func g) [] cap])∧E 5=.ref 1 1 0 0) (x:List T) (n:Nat) (hn:n < w.bs.length) (hnn:stA w.t n=false)
  (s:List Int × Nat) (hs:asI w s) (dd nn:Nat) (hnn':200 < nn) (R:Xit→FEnv→Heap→Prop) (e:FEnv)
  (he:e 2=.t (.ip (nwC f w))∧e 3=.t (.ip [.fn (.func g) [] cap])∧e 5=.ref 1 1 0 0∧e 6=.t (I (n:Nat))∧e 22=.t (.sl false 1 (((portsL w.t n).map ofN).map I))∧e 23=.t (I ((portsL w.t n).length:Nat))∧e 24=.t (I 0))
  (hR:∀ e,(e 2=.t (.ip (nwC f w))∧e 3=.t (.ip [.fn (.func g) [] cap])∧e 5=.ref 1 1 0 0)→R (.exit 2) e (hpAs w rf E true (asN w r s n)++[.row 5 [.t (.agg x)] 1])) :
  wpIter 4 (some [2,3,5,6,22,23,24]) (wc Tryz.prog pol (ans Tryz.prog pol) (inl Tryz.prog pol (ans Tryz.prog pol) nn dd) nn 42 il42l0) R nn e (hpAs w rf E true s++[.row 5 [.t (.agg x)] 1]):=by
 obtain ⟨z1,z2,z3⟩:=q06 hok
 have hpl:=q1y w.t n
 refine q04 (portsL w.t n) (fun p=>I (ofN p)) (step:=fun _ p s=>.go (asQ w r n s p)) (fin:=id)
  (St:=fun i s e h=>(e 2=.t (.ip (nwC f w))∧e 3=.t (.ip [.fn (.func g) [] cap])∧e 5=.ref 1 1 0 0∧e 6=.t (I (n:Nat))∧e 22=.t (.sl false 1 (((portsL w.t n).map ofN).map I))∧e 23=.t (I ((portsL w.t n).length:Nat))∧e 24=.t (I (i:Nat)))∧asI w s∧h=hpAs w rf E true s++[.row 5 [.t (.agg x)] 1])
  (Ex:=fun s x' e h=>(e 2=.t (.ip (nwC f w))∧e 3=.t (.ip [.fn (.func g) [] cap])∧e 5=.ref 1 1 0 0)∧x'=.exit 2∧h=hpAs w rf E true s++[.row 5 [.t (.agg x)] 1]) (s:=s) (by omega) ?_ ?_ (by omega) ⟨he,hs,rfl⟩ ?_
 ·intro i p ss e hp Y R hm hi hx hget hlt hw ⟨hs',hI,hhp⟩ hk
  subst hhp
  simp only [q01] at hk
  have hI2:=q6x (r:=r) (n:=n) (p:=p) hI
  have hplt:p < 2*w.t.links.length:=q1x hm
  have hget':(((portsL w.t n).map ofN).map I)[i]? = some (I (ofN p)):=by simp [hx]
  have k2:=q1u f w p hok hplt
  obtain ⟨g1,q1⟩:=q0B w.t z2 (q1b hok hplt)
  have hj:p / 2 < w.down.length:=by omega
  have g2:(w.down.map B)[p / 2]? = some (B (dnA w (p / 2))):=by simp [dnA,hj]
  have v2:IntKind.i64.wrap (Int.tdiv (p:Nat) 2)=((p / 2:Nat):Int):=by rw [tdiv2]; exact q09 (by omega) (by omega)
  obtain ⟨s,mr⟩:=ss
  obtain ⟨hI3,hI4⟩:=hI
  dsimp only at hI3 hI4
  have hsl:((s.map I).map AV.t).length=2*w.t.links.length:=by simp [hI3]
  obtain ⟨y,hy⟩:∃ y,s[p]? = some y:=⟨s[p]'(by omega),by simp [show p < s.length by omega]⟩
  have gx:((s.map I).map AV.t)[p]? = some (.t (I y)):=q0c (enc:=I) hy
  have hset:=map_set (enc:=I) (l:=s) (i:=p) (x:=asV w r n p)
  have hsl2:2*w.t.links.length≤2*w.t.links.length:=Nat.le_refl _
  have fzl:∀ hx:Heap,frzObj hx (fromB 4) (lpAs rf E true)=some (lpAs rf E true):=fun hx=>q6y f w g cap rf E hE true hx 4 (by omega)
  simp only [asQ,hpAs,List.cons_append,List.nil_append] at hk ⊢
  rw [← hset] at hk
  simp only [asQ,asV] at hk hI2
  have hav:∀ (q:Nat→Bool) (y:T),avoidAll q (((s.map I).map AV.t).set p (.t y))=true:=fun q y=>by rw [← List.map_set,q0i]
  cases hdn:dnA w (p / 2) with
  | true =>
   rw [hdn] at g2
   rw [if_pos hdn] at hk hI2
   (repeat' first|simp only [il42l0_go,il42l0b,go_sem,hs',hget',hlt,hw,ofN,v2,g2,gx,hsl,hplt,hI4,hav,q08,fzl]|with_reducible refine wX fun _=>?_|((with_reducible refine wY ?_ ?_); rfl)|fail)
   all_goals (refine hk _ _ ⟨?_,hI2,?_⟩ <;> simp only [go_sem,hs',hw])
  | false =>
   rw [hdn] at g2
   rw [if_neg (by rw [hdn]; simp)] at hk hI2
   cases hst:stA w.t (toP w.t p).toNat with
   | true =>
    rw [hst] at g1
    rw [if_pos hst] at hk hI2
    (repeat' first|simp only [il42l0_go,il42l0b,go_sem,hs',hget',hlt,hw,ofN,v2,g1,g2,q1,k2,gx,hsl,hplt,hI4,hav,q08,fzl]|with_reducible refine wX fun _=>?_|((with_reducible refine wY ?_ ?_); rfl)|fail)
    all_goals (refine hk _ _ ⟨?_,hI2,?_⟩ <;> simp only [go_sem,hs',hw])
   | false =>
    rw [hst] at g1
    rw [if_neg (by rw [hst]; simp)] at hk hI2
    have k3:=hg n p hn hnn (List.mem_filter.2 ⟨hm,by rw [innP,hst]; rfl⟩) hdn
    (repeat' first|simp only [il42l0_go,il42l0b,go_sem,hs',hget',hlt,hw,ofN,v2,g1,g2,q1,k2,k3,hgi,hgf,gx,hsl,hplt,hI4,hav,q08,fzl]|with_reducible refine wX fun _=>?_|((with_reducible refine wY ?_ ?_); rfl)|fail)
    all_goals (refine hk _ _ ⟨?_,hI2,?_⟩ <;> simp only [go_sem,hs',hw])
 ·intro s e h Y R hlt ⟨hs',_,hh⟩ hk
  subst hh
  (repeat' first|simp only [il42l0_go,il42l0b,go_sem,hs',hlt]|with_reducible refine wX fun _=>?_|((with_reducible refine wY ?_ ?_); rfl)|fail)
  all_goals (refine hk _ _ _ ⟨?_,rfl,rfl⟩; simp only [go_sem,hs',id])
 ·intro x e h ⟨h1,h2,h3⟩
  have hf:∀ (l:List Nat) (i:Nat) (s:List Int × Nat),foldC (ρ:=List Int × Nat) (fun _ p s=>Ctl.go (asQ w r n s p)) id i l s=l.foldl (asQ w r n) s:=by
   intro l
   induction l with
   | nil=>intro i s; rfl
   | cons x l ih =>
    intro i s
    rw [q0a (s':=asQ w r n s x) rfl,ih,List.foldl_cons]
  rw [hf] at h3
  subst h2 h3
  exact hR _ h1
theorem qie (rf:Code × Code) (hrf:rfOf Tryz.prog 42 0=rf) (E:FEnv) (hE:E 2=.t (.ip (nwC f w))∧E 3=.t (.ip [.fn (.func g) [] cap])∧E 5=.ref 1 1 0 0) (s:List Int × Nat) (hs:asI w s) (n:Nat) (x:List T) (hn:n < w.bs.length) (hst:stA w.t n=false) (dd nn:Nat) (hnn:200 < nn) (Q:AV→Heap→Prop)
  (hQ:∀ X',Q (.t (B true)) (hpAs w rf E false (asN w r s n)++[.row 5 [.t (.agg x)] 1]++X')) :
  oB (inl Tryz.prog pol (ans Tryz.prog pol) nn (dd+1) (.yl 2) [.t (I (n:Nat)),.t (.agg x)] (hpAs w rf E false s++[.row 5 [.t (.agg x)] 1])) Q:=by
 subst hrf
 have k1:=q2o f w n hok (by omega)
 have hq:=hQ []
 have key:([.row 1 ((s.1.map I).map .t) s.2,.row 1 [.ms 0 (2*w.t.links.length) 0 (2*w.t.links.length) 1 true] 1,.loop 42 (lpEnv 61 (tidyF (some [2,3,5]) E)) [18,19] (rfOf Tryz.prog 42 0).1 (rfOf Tryz.prog 42 0).2 true none,.row 5 [.t (.agg x)] 1]:Heap)
   = hpAs w (rfOf Tryz.prog 42 0) E true s++[.row 5 [.t (.agg x)] 1]:=rfl
 have hR:=fun (R:Xit→FEnv→Heap→Prop) (e:FEnv) he hR=>qid f w g cap r hok hbl hdl hgi hgf hg (rfOf Tryz.prog 42 0) E hE x n hn hst s hs dd nn hnn R e he hR
 rw [← key] at hR
 have hlen:(((portsL w.t n).map ofN).map I).length=(portsL w.t n).length:=by simp
 have hlen2:((portsL w.t n).map ofN).length=(portsL w.t n).length:=by simp
 generalize asN w r s n=s2 at *
 simp only [hpAs,lpAs,List.cons_append,List.nil_append] at hq hR ⊢
 with_reducible refine oB_yl (E:=tidyF (some [2,3,5]) E) rfl rfl rfl il42r0a_eq il42r0b_eq ?_
 (repeat' first|simp only [il42r0a,il42r0b,go_sem,hE,k1,hlen2]|with_reducible refine wX fun _=>?_|((with_reducible refine wY ?_ ?_); rfl)|fail)
 with_reducible refine hR _ _ (by simp only [go_sem,hE,hlen2]) ?_
 intro e he
 (repeat' first|simp only [il42r0b,go_sem,he]|with_reducible refine wX fun _=>?_|((with_reducible refine wY ?_ ?_); rfl)|fail)
 all_goals exact hq
end
end Go.Proofs.YtbibdnlbpjnieaaGreat
namespace Go.Proofs.YtbibdnlbpjnieaaGreat
open Go Go.Abs
def asL (w:Nw) (r:Nat→Nat→Int):List Int:=((List.range w.bs.length).foldl (stS w.t (asN w r)) (List.replicate (2*w.t.links.length) 0,0)).1
theorem q6z (f:Fl) (w:Nw) (g:FuncId) (cap:List T) (r:Nat→Nat→Int) (hok:okT w.t=true) (hbl:(w.bs.length:Int)=w.t.nodes) (hdl:w.down.length=w.t.links.length)
  (hgi:pol.inl g 42 33=false) (hgf:pol.fresh g 42 33=false)
  (hg:∀ n p,n < w.bs.length→stA w.t n=false→p∈trunkL w.t n→dnA w (p / 2)=false→ans Tryz.prog pol g (I (n:Nat)::I (p:Nat)::cap)=some (I (r n p))) :
  ans Tryz.prog pol 42 [nwT f w,.fn (.func g) [] cap]=some (.sl true 1 ((asL w r).map I)):=by
 obtain ⟨z1,z2,z3⟩:=q06 hok
 have hroom:8*(2*w.t.links.length)≤roomB:=by rw [Nat.mul_comm]; exact q07 (by omega) (by omega)
 have hbig:2*w.t.links.length≤9223372036854775807:=by omega
 have v1:IntKind.i64.wrap (2*(w.t.links.length:Nat))=((2*w.t.links.length:Nat):Int):=q09 (by omega) (by omega)
 have hb100:w.bs.length≤100:=by omega
 have hcf:(T.fn (Fn.func g) [] cap).cells=[T.fn (Fn.func g) [] cap]:=rfl
 obtain ⟨nn,h2000⟩:∃ nn,2000 < nn:=⟨2001,by omega⟩
 have hn2:200 < nn:=by omega
 refine q00 nn 5 il42_eq (Nat.le_of_ble_eq_true rfl) ?_
 simp only [il42c]
 generalize hrf:rfOf Tryz.prog 42 0=rf
 (repeat' first|simp only [List.cons_append,List.nil_append,go_sem,hroom,hbig,v1]|with_reducible refine wX fun _=>?_|((with_reducible refine wY ?_ ?_); rfl)|((with_reducible refine q0b il31_eq ?_ ?_); exact Nat.le_of_ble_eq_true rfl; simp only [il31c])|fail)
 have hrep:List.replicate (2*w.t.links.length) (AV.t (T.sc (Value.int IntKind.i64 0)))=((List.replicate (2*w.t.links.length) (0:Int)).map I).map .t:=by simp
 have key:∀ E:FEnv,([.row 1 (((List.replicate (2*w.t.links.length) (0:Int)).map I).map .t) 0,.row 1 [.ms 0 (2*w.t.links.length) 0 (2*w.t.links.length) 1 true] 1,.loop 42 (lpEnv 61 (tidyF (some [2,3,5]) E)) [18,19] rf.1 rf.2 false none]:Heap)=hpAs w rf E false (List.replicate (2*w.t.links.length) 0,0):=fun E=>rfl
 rw [hrep,key]
 have h23:2 < 3:=by omega
 have hI0:asI w (List.replicate (2*w.t.links.length) 0,0):=⟨by simp,Nat.zero_le _⟩
 let σ:={ s:List Int × Nat // asI w s }
 let nx:σ→Nat→σ:=fun s n=>⟨asN w r s.1 n,qib s.2⟩
 have hstv:∀ (s:σ) n,(stS w.t nx s n).1=stS w.t (asN w r) s.1 n:=fun s n=>by
  unfold stS
  by_cases q:stA w.t n=true
  ·rw [if_pos q,if_pos q]
  ·rw [if_neg q,if_neg q]
 have hfv:∀ (s:σ) k,((List.range k).foldl (stS w.t nx) s).1=(List.range k).foldl (stS w.t (asN w r)) s.1:=by
  intro s k
  induction k with
  | zero=>rfl
  | succ k ih =>
   rw [List.range_succ,List.foldl_append,List.foldl_append,List.foldl_cons,List.foldl_cons,List.foldl_nil,List.foldl_nil,hstv,ih]
 have hs0:∀ E:FEnv,hpAs w rf E false (List.replicate (2*w.t.links.length) 0,0)=(fun s:σ=>hpAs w rf E false s.1) ⟨(List.replicate (2*w.t.links.length) 0,0),hI0⟩:=fun E=>rfl
 rw [hs0]
 have hcl:asL w r=((List.range w.bs.length).foldl (stS w.t (asN w r)) (List.replicate (2*w.t.links.length) 0,0)).1:=rfl
 with_reducible refine @q3y σ (fun s:σ=>hpAs w rf _ false s.1) 3 (fun s=>rfl) nx 4 nn 2 (fun n s=>True) w (fun _ _ _ _=>trivial) ?_ h23 f z2 hbl hb100 ?_ ⟨(List.replicate (2*w.t.links.length) 0,0),hI0⟩ trivial _ hn2 ?_
 ·intro s h q hq
  exact qic f w g cap rf _ (by simp only [go_sem,hcf]) false s.1 h q hq
 ·intro s n x Q hx hs _ hQ
  have hnl:n < w.bs.length:=(List.getElem?_eq_some_iff.1 hx).1
  have hQ':∀ X',Q (.t (B true)) (hpAs w rf _ false (asN w r s.1 n)++[.row 5 [.t (.agg (bxC x))] 1]++X'):=hQ
  with_reducible exact @qie f w g cap r hok hbl hdl hgi hgf hg rf hrf _ (by simp only [go_sem,hcf]) s.1 s.2 n (bxC x) hnl hs 3 nn hn2 Q hQ'
 ·intro v
  have hfin:=((List.range w.bs.length).foldl (stS w.t nx) ⟨(List.replicate (2*w.t.links.length) 0,0),hI0⟩).2
  change rfEnd _ _ _ v (hpAs w rf _ false ((List.range w.bs.length).foldl (stS w.t nx) ⟨(List.replicate (2*w.t.links.length) 0,0),hI0⟩).1)
  rw [hfv] at hfin ⊢
  rw [hcl]
  generalize (List.range w.bs.length).foldl (stS w.t (asN w r)) (List.replicate (2*w.t.links.length) 0,0)=s at *
  obtain ⟨hf1,hf2⟩:=hfin
  have hl4:((s.1.map I).map AV.t).length=2*w.t.links.length:=by simp [hf1]
  simp only [hpAs,lpAs,List.cons_append,List.nil_append]
  (repeat' first|simp only [il42c,go_sem,q08,hl4,hf2]|with_reducible refine wX fun _=>?_|((with_reducible refine wY ?_ ?_); rfl)|fail)
end Go.Proofs.YtbibdnlbpjnieaaGreat
namespace Go.Proofs.YtbibdnlbpjnieaaGreat
open Go Go.Abs
def encR:Option (List Int)→T
 | none=>.sc (.slice none 0 0)
 | some l=>.sl true 1 (l.map I)
def rolesB (b:Br):List Int:=(List.range b.ports.length).map (roleF b (opF b).t)
def rolesAt (w:Nw) (n:Nat):Option (List Int):=if stA w.t n=true then none else some (rolesB (bxA w n).b)
def roleW (w:Nw) (n p:Nat):Int:=roleF (bxA w n).b (opF (bxA w n).b).t (idxL (ofN p) 0 ((trunkL w.t n).map ofN)).toNat
theorem qif (f:Fl) (w:Nw) (h:NwOk w) (n p:Nat) (hn:n < w.bs.length) (hst:stA w.t n=false) (hp:p∈trunkL w.t n) :
  ans Tryz.prog pol 43 [I (n:Nat),I (p:Nat),.ip [.sl true 1 (((List.range w.bs.length).map (rolesAt w)).map encR)],.ip (nwC f w)]=some (I (roleW w n p)):=by
 obtain ⟨x,hx⟩:∃ x,w.bs[n]? = some x:=⟨w.bs[n]'hn,by simp [hn]⟩
 have hbx:bxA w n=x:=by simp [bxA,hx]
 obtain ⟨xz,xv⟩:=h.vb.2 n x hx hst
 obtain ⟨j,h1,h2,h3⟩:=q6b (v:=ofN p) (i:=0) (List.mem_map_of_mem (f:=ofN) hp)
 simp only [List.length_map] at h1
 have hrw:roleW w n p=roleF x.b (opF x.b).t j:=by
  rw [roleW,h3,hbx]
  congr 1
  omega
 have gr:(((List.range w.bs.length).map (rolesAt w)).map encR)[n]? = some (.sl true 1 ((rolesB x.b).map I)):=by
  rw [List.getElem?_map,List.getElem?_map,List.getElem?_range hn]
  simp only [Option.map_some,rolesAt,hst,Bool.false_eq_true,if_false,hbx,encR]
 have gb:(w.bs.map encX)[n]? = some (encX x):=by simp [hx]
 have hj:j < x.b.ports.length:=by rw [xv.ports]; simpa using h1
 have gj:((rolesB x.b).map I)[j]? = some (I (roleF x.b (opF x.b).t j)):=by simp [rolesB,hj]
 have htl:=q0J h.t (n:Nat)
 rw [hrw]
 generalize roleF x.b (opF x.b).t j=R at *
 generalize rolesB x.b=RB at *
 obtain ⟨z,c1,c2,c3,b⟩:=x
 dsimp only at xz xv hj
 subst xz
 have k1:=q5X c1 b.ports (ofN p) (by rw [xv.ports]; simp; omega)
 have hidx:idxL (ofN p) 0 b.ports=((j:Nat):Int):=by rw [xv.ports,h3]; congr 1; omega
 rw [hidx] at k1
 have hcell:(encX ⟨false,c1,c2,c3,b⟩).cells=brC c1 c2 c3 b:=rfl
 have hrl:(T.sl true 1 (RB.map I)).cells=[T.sl true 1 (RB.map I)]:=rfl
 refine q00 1 1 il43_eq (Nat.le_of_ble_eq_true rfl) ?_
 simp only [ofN] at k1
 (repeat' first|simp only [il43c,go_sem,k1,gr,gb,gj,hcell,hrl]|with_reducible refine wX fun _=>?_|((with_reducible refine wY ?_ ?_); rfl)|fail)
end Go.Proofs.YtbibdnlbpjnieaaGreat
