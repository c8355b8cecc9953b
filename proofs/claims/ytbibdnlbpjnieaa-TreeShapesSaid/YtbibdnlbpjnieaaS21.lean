/- Part 21 of the proof of TreeShapes. -/
import Derived.Test.YtbibdnlbpjnieaaS20
set_option linter.all false
set_option maxRecDepth 100000
set_option maxHeartbeats 4000000
namespace Go.Proofs.Ytbibdnlbpjnieaa
open Go Go.Abs
def trP (t:Tpo) (p:Nat):Prop:=p < 2*t.links.length∧stA t (frP t p).toNat=false∧stA t (toP t p).toNat=false
theorem trP_mem {t:Tpo} {p:Nat} (h:trP t p):p∈trunkL t (frP t p):=mem_trunk.2 ⟨h.1,rfl,h.2.2⟩
theorem trP_bk {t:Tpo} {p:Nat} (h:trP t p):trP t (bk p):=⟨bk_lt h.1,by rw [bk_fr]; exact h.2.2,by rw [bk_to]; exact h.2.1⟩
theorem trP_of {t:Tpo} {n:Nat} {p:Nat} (hs:stA t n=false) (h:p∈trunkL t (n:Nat)):trP t p:=by
 obtain ⟨h1,h2,h3⟩:=mem_trunk.1 h
 exact ⟨h1,by rw [h2]; simpa using hs,h3⟩
def bsA (bs:List Bx) (n:Nat):Br:=(bs[n]?.getD zBx).b
def hAt (t:Tpo) (bs:List Bx) (p:Nat):Hd:=hrd (bsA bs (frP t p).toNat) (ixP t p)
def sntP (t:Tpo) (bs:List Bx) (p:Nat):Hd:=sentF (bsA bs (frP t p).toNat) (opF (bsA bs (frP t p).toNat)).t (ixP t p)
theorem ixP_inj {t:Tpo} {p q:Nat} (hp:trP t p) (hq:trP t q) (hf:frP t p=frP t q) (hi:ixP t p=ixP t q):p=q:=by
 have h1:=(ixP_spec (trP_mem hp)).2.1
 have h2:=(ixP_spec (trP_mem hq)).2.1
 rw [hf,hi] at h1
 rw [h1] at h2
 exact Option.some.inj h2
theorem ixP_at {t:Tpo} {n:Nat} {i p:Nat} (h:(trunkL t (n:Nat))[i]? = some p):ixP t p=i:=by
 have hm:=List.mem_of_getElem? h
 have hf:frP t p=(n:Nat):=(mem_trunk.1 hm).2.1
 rw [← hf] at hm h
 obtain ⟨h1,h2,_⟩:=ixP_spec hm
 have hs:=trunk_sorted t (frP t p)
 obtain ⟨hi,hx⟩:=List.getElem?_eq_some_iff.1 h
 obtain ⟨hj,hy⟩:=List.getElem?_eq_some_iff.1 h2
 rw [List.pairwise_iff_getElem] at hs
 rcases Nat.lt_trichotomy (ixP t p) i with h|h|h
 ·have:=hs _ _ hj hi h; omega
 ·exact h
 ·have:=hs _ _ hi hj h; omega
section
variable {w:Nw} (hok:okT w.t=true) (hbl:(w.bs.length:Int)=w.t.nodes)
include hok hbl
theorem vBs_at {bs:List Bx} (hv:vBs w bs) {p:Nat} (hp:trP w.t p):∃ n x,frP w.t p=((n:Nat):Int)∧n < w.bs.length∧bs[n]? = some x∧bsA bs n=x.b∧x.z=false∧VB w n x.b∧x.b.heard.length=(trunkL w.t n).length∧ixP w.t p < x.b.heard.length:=by
 have hn:=frP_node hok hp.1
 obtain ⟨h1,h2⟩:=hn
 have hlt:(frP w.t p).toNat < bs.length:=by rw [hv.1]; omega
 refine ⟨(frP w.t p).toNat,bs[(frP w.t p).toNat],by omega,by omega,by simp [hlt],by simp [bsA,hlt],?_⟩
 have h3:=hv.2 _ bs[(frP w.t p).toNat] (by simp [hlt]) hp.2.1
 obtain ⟨h4,h5⟩:=h3
 have h6:=okB_len h5.ok
 simp only [okL] at h6
 have h7:(bs[(frP w.t p).toNat]).b.ports.length=(trunkL w.t ((frP w.t p).toNat:Nat)).length:=by rw [h5.ports]; simp
 have h8:=(ixP_spec (trP_mem hp)).1
 have h9:(((frP w.t p).toNat:Nat):Int)=frP w.t p:=by omega
 refine ⟨h4,h5,by omega,?_⟩
 rw [h9] at h7
 omega
theorem rcvP_at {bs:List Bx} (hv:vBs w bs) {p q:Nat} (hp:trP w.t p) (hq:trP w.t q) (m:Hd) :
  hAt w.t (rcvP w bs p m) q=if (m.is=true∧dnA w (p / 2)=false)∧q=bk p then rcvH (hAt w.t bs q) m else hAt w.t bs q:=by
 unfold rcvP
 by_cases hc:m.is=true∧dnA w (p / 2)=false
 ·rw [if_pos hc]
  obtain ⟨n,x,h1,h2,h3,h4,h5,h6,h7,h8⟩:=vBs_at hok hbl hv hq
  obtain ⟨n',x',k1,k2,k3,k4,k5,k6,k7,k8⟩:=vBs_at hok hbl hv (trP_bk hp)
  rw [bk_fr] at k1
  have hx':(bs[(toP w.t p).toNat]?.getD zBx).b=x'.b:=by rw [k1,Int.toNat_natCast,k3]; rfl
  rw [hx',k1,Int.toNat_natCast]
  by_cases hn:n=n'
  ·subst hn
   have hxx:x=x':=by rw [h3] at k3; exact Option.some.inj k3
   subst hxx
   have hlt:n < bs.length:=(List.getElem?_eq_some_iff.1 h3).1
   have e1:bsA (bs.set n (rcvB x.b (ixP w.t (bk p)) m)) n=putB x.b (x.b.heard.set (ixP w.t (bk p)) (rcvH (hrd x.b (ixP w.t (bk p))) m)):=by simp [bsA,hlt,rcvB]
   by_cases hqp:q=bk p
   ·rw [if_pos ⟨hc,hqp⟩]
    subst hqp
    simp only [hAt,h1,Int.toNat_natCast,e1,h4]
    simp [hrd,putB,k8]
   ·rw [if_neg (fun h=>hqp h.2)]
    have hne:ixP w.t (bk p)≠ixP w.t q:=fun h=>hqp (ixP_inj hq (trP_bk hp) (by rw [h1,bk_fr,k1]) h.symm)
    simp only [hAt,h1,Int.toNat_natCast,e1,h4]
    simp only [hrd,putB]
    rw [List.getElem?_set_ne hne]
  ·have hqp:q≠bk p:=fun h=>hn (by rw [h,bk_fr,k1] at h1; omega)
   rw [if_neg (fun h=>hqp h.2)]
   simp only [hAt,h1,Int.toNat_natCast,bsA]
   rw [List.getElem?_set_ne (fun h=>hn h.symm)]
 ·rw [if_neg hc,if_neg (fun h=>hc h.1)]
omit hok hbl in
theorem rcvP_st {bs:List Bx} {p:Nat} (hp:trP w.t p) (m:Hd) {n:Nat} (hn:stA w.t n=true):(rcvP w bs p m)[n]? = bs[n]?:=by
 unfold rcvP
 split
 ·rw [List.getElem?_set_ne]
  intro h
  rw [← h,hp.2.2] at hn
  cases hn
 ·rfl
theorem rcv_fold (snt:Nat→Hd) (hs:∀ p,trP w.t p→(snt p).is=true→helloP (snt p)):∀ (l:List Nat),l.Pairwise (· ≠ ·)→(∀ p∈l,trP w.t p)→∀ bs,vBs w bs →
  vBs w (l.foldl (fun s p=>rcvP w s p (snt p)) bs)∧(∀ n,stA w.t n=true→(l.foldl (fun s p=>rcvP w s p (snt p)) bs)[n]? = bs[n]?) ∧
  ∀ q,trP w.t q→hAt w.t (l.foldl (fun s p=>rcvP w s p (snt p)) bs) q=if bk q∈l∧(snt (bk q)).is=true∧dnA w (q / 2)=false then rcvH (hAt w.t bs q) (snt (bk q)) else hAt w.t bs q:=by
 intro l
 induction l with
 | nil=>intro _ _ bs hv; exact ⟨hv,fun _ _=>rfl,fun q _=>by rw [if_neg (fun h=>by cases h.1)]; rfl⟩
 | cons p l ih =>
  intro hnd hm bs hv
  rw [List.pairwise_cons] at hnd
  have hp:=hm p (by simp)
  have hv2:=rcvP_ok hv (hs p hp) hp.2.2
  obtain ⟨i1,i2,i3⟩:=ih hnd.2 (fun q hq=>hm q (by simp [hq])) (rcvP w bs p (snt p)) hv2
  rw [List.foldl_cons]
  refine ⟨i1,fun n hn=>by rw [i2 n hn,rcvP_st hp _ hn],fun q hq=>?_⟩
  rw [i3 q hq,rcvP_at hok hbl hv hp hq]
  by_cases hqp:q=bk p
  ·have hb:bk q=p:=by rw [hqp,bk_bk]
   have hnl:bk q ∉ l:=fun h=>hnd.1 _ h hb.symm
   rw [if_neg (fun h=>hnl h.1)]
   have hh:p / 2=q / 2:=by rw [← hb,bk_half]
   by_cases hc:(snt p).is=true∧dnA w (p / 2)=false
   ·rw [if_pos ⟨hc,hqp⟩,if_pos ⟨by rw [hb]; simp,by rw [hb,← hh]; exact hc⟩,hb]
   ·rw [if_neg (fun h=>hc h.1),if_neg (fun h=>hc (by rw [hb,← hh] at h; exact h.2))]
  ·have hb:bk q≠p:=fun h=>hqp (by rw [← h,bk_bk])
   rw [if_neg (c:=(_∧_)∧q=bk p) (fun h=>hqp h.2)]
   by_cases hc:bk q∈l∧(snt (bk q)).is=true∧dnA w (q / 2)=false
   ·rw [if_pos hc,if_pos ⟨by simp [hc.1],hc.2⟩]
   ·rw [if_neg hc,if_neg (fun h=>hc ⟨by have:=h.1; rw [List.mem_cons] at this; exact this.resolve_left hb,h.2⟩)]
omit hok hbl in
theorem fold_get {σ:Type} (g:σ→Nat→Nat→σ) (f:σ→Nat→σ) (l:List Nat) (h:∀ s i p,l[i]? = some p→g s i p=f s p) (s:σ):(List.range l.length).foldl (fun s i=>g s i (l[i]?.getD 0)) s=l.foldl f s:=by
 have e:l=(List.range l.length).map (fun i=>l[i]?.getD 0):=by
  apply List.ext_getElem
  ·simp
  ·intro i h1 h2; simp [h1]
 conv=>rhs; rw [e,List.foldl_map]
 refine foldl_eq _ _ (fun s i hi=>?_)
 have hi:=List.mem_range.1 hi
 have:l[i]? = some l[i]:=by simp [hi]
 rw [this]
 exact h s i _ this
omit hok hbl in
theorem fold_flat {σ:Type} {f:σ→Nat→σ} {g:σ→Nat→σ} {h:Nat→List Nat}:∀ (l:List Nat) (s:σ),(∀ s,∀ n∈l,f s n=(h n).foldl g s)→l.foldl f s=(l.flatMap h).foldl g s:=by
 intro l
 induction l with
 | nil=>intro s _; rfl
 | cons n l ih =>
  intro s hf
  rw [List.foldl_cons,List.flatMap_cons,List.foldl_append,ih _ (fun s m hm=>hf s m (by simp [hm])),hf s n (by simp)]
omit hok hbl in
theorem rcvL_eq {bs0:List Bx} (hv:vBs w bs0) {n:Nat} (hn:n < w.bs.length) (hst:stA w.t n=false) (bs:List Bx):rcvL w (sentW w bs0) bs n=(trunkL w.t n).foldl (fun s p=>rcvP w s p (sntP w.t bs0 p)) bs:=by
 have hS:(sentW w bs0)[n]? = some (some (sends (bsA bs0 n))):=by
  rw [sentW,List.getElem?_map,List.getElem?_range hn,Option.map_some,sentAt,if_neg (by rw [hst]; simp)]; rfl
 obtain ⟨x,hx⟩:∃ x,bs0[n]? = some x:=⟨bs0[n]'(by rw [hv.1]; exact hn),by simp [hv.1,hn]⟩
 obtain ⟨_,hb⟩:=hv.2 n x hx hst
 have hbx:bsA bs0 n=x.b:=by simp [bsA,hx]
 rw [rcvL,hS]
 simp only [Option.getD_some]
 have hl:(sends (bsA bs0 n)).length=(trunkL w.t n).length:=by rw [hbx,sends]; simp [hb.ports]
 rw [hl]
 refine fold_get (fun s i p=>rcvP w s p ((sends (bsA bs0 n))[i]?.getD zH)) _ _ (fun s i p hp=>?_) bs
 have hm:=mem_trunk.1 (List.mem_of_getElem? hp)
 have hi:i < (trunkL w.t n).length:=(List.getElem?_eq_some_iff.1 hp).1
 have hpl:i < (bsA bs0 n).ports.length:=by rw [hbx,hb.ports]; simpa using hi
 have:(sends (bsA bs0 n))[i]?.getD zH=sntP w.t bs0 p:=by
  rw [sntP,hm.2.1,Int.toNat_natCast,ixP_at hp]
  simp [sends,hpl]
 simp only [this]
def trunkAll (w:Nw):List Nat:=(List.range w.bs.length).flatMap (fun n=>if stA w.t n=true then [] else trunkL w.t n)
theorem mem_trunkAll {p:Nat}:p∈trunkAll w↔trP w.t p:=by
 simp only [trunkAll,List.mem_flatMap,List.mem_range]
 constructor
 ·rintro ⟨n,hn,h⟩
  split at h
  ·cases h
  ·rename_i hs
   exact trP_of (by simpa using hs) h
 ·intro h
  have hn:=frP_node hok h.1
  obtain ⟨h1,h2⟩:=hn
  refine ⟨(frP w.t p).toNat,by omega,?_⟩
  rw [if_neg (by rw [h.2.1]; simp)]
  have:=trP_mem h
  rwa [show (((frP w.t p).toNat:Nat):Int)=frP w.t p by omega]
omit hok hbl in
theorem trunkAll_nodup:(trunkAll w).Pairwise (· ≠ ·):=by
 rw [trunkAll,List.pairwise_flatMap]
 refine ⟨fun n _=>?_,?_⟩
 ·split
  ·exact .nil
  ·exact (trunk_sorted w.t n).imp (fun h=>by omega)
 ·refine List.pairwise_lt_range.imp (fun {a b} hab x hx y hy=>?_)
  split at hx
  ·cases hx
  split at hy
  ·cases hy
  have h1:=(mem_trunk.1 hx).2.1
  have h2:=(mem_trunk.1 hy).2.1
  intro he
  rw [he,h2] at h1
  omega
omit hok hbl in
theorem tk_fold (bs:List Bx):∀ k,k≤bs.length→((List.range k).foldl (stS w.t tkL) bs).length=bs.length∧∀ n,((List.range k).foldl (stS w.t tkL) bs)[n]? = if n < k∧stA w.t n=false then (bs[n]?).map (fun x=>tkB x.b) else bs[n]?:=by
 intro k
 induction k with
 | zero=>intro _; exact ⟨rfl,fun n=>by rw [if_neg (fun h=>by omega)]; rfl⟩
 | succ k ih =>
  intro hk
  obtain ⟨i1,i2⟩:=ih (by omega)
  rw [List.range_succ,List.foldl_append,List.foldl_cons,List.foldl_nil]
  generalize (List.range k).foldl (stS w.t tkL) bs=S at *
  unfold stS
  by_cases hs:stA w.t k=true
  ·rw [if_pos hs]
   refine ⟨i1,fun n=>?_⟩
   rw [i2 n]
   by_cases hn:n=k
   ·subst hn; rw [if_neg (fun h=>by omega),if_neg (fun h=>by rw [hs] at h; cases h.2)]
   ·have:(n < k+1∧stA w.t n=false)↔(n < k∧stA w.t n=false):=by constructor <;> rintro ⟨h1,h2⟩ <;> exact ⟨by omega,h2⟩
    simp only [this]
  ·rw [if_neg hs]
   have hs':stA w.t k=false:=by simpa using hs
   refine ⟨by simp [tkL,i1],fun n=>?_⟩
   by_cases hn:n=k
   ·subst hn
    have h0:=i2 n
    rw [if_neg (fun h=>by omega)] at h0
    rw [if_pos ⟨by omega,hs'⟩,tkL,List.getElem?_set_self (by omega),h0]
    have:n < bs.length:=by omega
    simp [this]
   ·rw [tkL,List.getElem?_set_ne (fun h=>hn h.symm),i2 n]
    have:(n < k+1∧stA w.t n=false)↔(n < k∧stA w.t n=false):=by constructor <;> rintro ⟨h1,h2⟩ <;> exact ⟨by omega,h2⟩
    simp only [this]
omit hok hbl in
theorem tick_hrd (b:Br) (i:Nat):hrd (putB b (b.heard.map tickH)) i=tickH (hrd b i):=by
 simp only [hrd,putB,List.getElem?_map]
 cases b.heard[i]? with
 | none=>rfl
 | some x=>rfl
theorem rnd_at {bs:List Bx} (hv:vBs w bs):vBs w (rndL w bs)∧(∀ n,stA w.t n=true→(rndL w bs)[n]? = bs[n]?) ∧
  ∀ q,trP w.t q→hAt w.t (rndL w bs) q=tickH (if (sntP w.t bs (bk q)).is=true∧dnA w (q / 2)=false then rcvH (hAt w.t bs q) (sntP w.t bs (bk q)) else hAt w.t bs q):=by
 have hsnt:∀ p,trP w.t p→(sntP w.t bs p).is=true→helloP (sntP w.t bs p):=by
  intro p hp hi
  obtain ⟨n,x,h1,h2,h3,h4,h5,h6,h7,h8⟩:=vBs_at hok hbl hv hp
  have h9:=okB_len h6.ok
  simp only [okL] at h9
  simp only [sntP,h1,Int.toNat_natCast,h4] at hi ⊢
  unfold sentF at hi ⊢
  split at hi
  ·rename_i h; rw [if_pos h]; exact clm_ok h6.ok (by omega)
  ·exact (by cases hi)
 have e1:(List.range w.bs.length).foldl (stS w.t (rcvL w (sentW w bs))) bs=(trunkAll w).foldl (fun s p=>rcvP w s p (sntP w.t bs p)) bs:=by
  refine fold_flat _ _ (fun s n hn=>?_)
  unfold stS
  by_cases hs:stA w.t n=true
  ·rw [if_pos hs,if_pos hs]; rfl
  ·rw [if_neg hs,if_neg hs]
   exact rcvL_eq hv (List.mem_range.1 hn) (by simpa using hs) s
 obtain ⟨r1,r2,r3⟩:=rcv_fold hok hbl (sntP w.t bs) hsnt (trunkAll w) trunkAll_nodup (fun p hp=>(mem_trunkAll hok hbl).1 hp) bs hv
 rw [← e1] at r1 r2 r3
 have e2:rndL w bs=(List.range w.bs.length).foldl (stS w.t tkL) ((List.range w.bs.length).foldl (stS w.t (rcvL w (sentW w bs))) bs):=rfl
 rw [e2]
 generalize (List.range w.bs.length).foldl (stS w.t (rcvL w (sentW w bs))) bs=B1 at *
 obtain ⟨t1,t2⟩:=tk_fold (w:=w) B1 w.bs.length (by rw [r1.1]; exact Nat.le_refl _)
 have hv2:vBs w ((List.range w.bs.length).foldl (stS w.t tkL) B1):=by
  refine ⟨by rw [t1,r1.1],fun n x hx hs=>?_⟩
  rw [t2 n] at hx
  have hn:n < w.bs.length:=by
   refine Classical.byContradiction fun hn=>?_
   rw [if_neg (fun h=>hn h.1),List.getElem?_eq_none (by rw [r1.1]; omega)] at hx
   cases hx
  rw [if_pos ⟨hn,hs⟩,Option.map_eq_some_iff] at hx
  obtain ⟨y,hy,rfl⟩:=hx
  exact ⟨rfl,(r1.2 n y hy hs).2.tick⟩
 refine ⟨hv2,fun n hn=>?_,fun q hq=>?_⟩
 ·rw [t2 n,if_neg (fun h=>by rw [hn] at h; cases h.2),r2 n hn]
 ·obtain ⟨n,x,h1,h2,h3,h4,h5,h6,h7,h8⟩:=vBs_at hok hbl r1 hq
  have hst:stA w.t n=false:=by have:=hq.2.1; rwa [h1,Int.toNat_natCast] at this
  have h9:=r3 q hq
  have:(bk q∈trunkAll w∧(sntP w.t bs (bk q)).is=true∧dnA w (q / 2)=false)↔((sntP w.t bs (bk q)).is=true∧dnA w (q / 2)=false):=⟨fun h=>h.2,fun h=>⟨(mem_trunkAll hok hbl).2 (trP_bk hq),h⟩⟩
  simp only [this] at h9
  rw [← h9]
  simp only [hAt,h1,Int.toNat_natCast]
  have e3:bsA ((List.range w.bs.length).foldl (stS w.t tkL) B1) n=putB x.b (x.b.heard.map tickH):=by
   rw [bsA,t2 n,if_pos ⟨h2,hst⟩,h3]; rfl
  rw [e3,tick_hrd,h4]
end
end Go.Proofs.Ytbibdnlbpjnieaa
namespace Go.Proofs.Ytbibdnlbpjnieaa
open Go Go.Abs
def nwN (w:Nw) (s:List Bx × Nat) (n:Nat):List Bx × Nat:=(s.1.set n (newN w n),w.bs.length)
noncomputable def lpNw (rf:Code × Code) (E:FEnv) (busy:Bool):AObj:=.loop 15 (lpEnv 66 (tidyF (some [4,5,7]) E)) [37,38] rf.1 rf.2 busy none
noncomputable def hpNw (w:Nw) (rf:Code × Code) (E:FEnv) (busy:Bool) (s:List Bx × Nat):Heap :=
 [.row 6 [.t zN6] 0,.row 1 [.t (I 0)] 0,.row 6 [.agg (nwA 3 5 w)] 1,dnRow w,.row 6 [.agg (nwA 3 5 w)] 1,bsRow s.1 s.2,.row 6 [.agg (nwA 3 5 w)] 1,.row 6 [.agg (nwA 3 5 w)] 0,lpNw rf E busy]
theorem lpNw_frz (rf:Code × Code) (E:FEnv) (hE:E 4=.ref 0 1 0 0∧E 5=.ref 1 1 0 0∧E 7=.ref 6 1 0 0) (busy:Bool) (h:Heap) (q:Nat) (hq:9≤q):frzObj h (fromB q) (lpNw rf E busy)=some (lpNw rf E busy):=by
 have f0:decide (q≤0)=false:=decide_eq_false (by omega)
 have f1:decide (q≤1)=false:=decide_eq_false (by omega)
 have f7:decide (q≤6)=false:=decide_eq_false (by omega)
 rw [lpNw,frz_loop]
 simp only [go_sem,hE,f0,f1,f7]
theorem hpNw_frz (w:Nw) (rf:Code × Code) (E:FEnv) (hE:E 4=.ref 0 1 0 0∧E 5=.ref 1 1 0 0∧E 7=.ref 6 1 0 0) (busy:Bool) (s:List Bx × Nat) (h:Heap) (q:Nat) (hq:9≤q):mapO (frzObj h (fromB q)) (hpNw w rf E busy s)=some (hpNw w rf E busy s):=by
 have f4:decide (q≤3)=false:=decide_eq_false (by omega)
 have f6:decide (q≤5)=false:=decide_eq_false (by omega)
 have a1:avoidAll (fromB q) [.agg (nwA 3 5 w)]=true:=by simp [nwA,avoidAll,avoid,fromB,f4,f6]
 have a4:∀ x:T,avoidAll (fromB q) [.t x]=true:=fun x=>by simp [avoidAll,avoid]
 simp only [hpNw,bsRow,dnRow,mapO,lpNw_frz rf E hE busy h q hq,frz_mapA,frz_rowA a1,frz_rowA (a4 _)]
theorem new_yield (rf:Code × Code) (hrf:rfOf Try.prog 15 0=rf) (w:Nw) (hok:okT w.t=true) (hr:rankL w.t w.prios=true) (hbl:(w.bs.length:Int)=w.t.nodes)
  (E:FEnv) (hE:E 4=.ref 0 1 0 0∧E 5=.ref 1 1 0 0∧E 7=.ref 6 1 0 0) (s:List Bx × Nat) (hsl:s.1.length=w.bs.length) (hmr:s.2≤w.bs.length) (n:Nat) (x:Bx) (hx:s.1[n]? = some x) (dd nn:Nat) (hn:200 < nn) (Q:AV→Heap→Prop)
  (hQ:∀ X',Q (.t (B true)) (hpNw w rf E false (nwN w s n)++[.row 5 [.t (.agg (bxC x))] 1]++X')) :
  oB (inl Try.prog pol (ans Try.prog pol) nn (dd+2) (.yl 8) [.t (I (n:Nat)),.t (.agg (bxC x))] (hpNw w rf E false s++[.row 5 [.t (.agg (bxC x))] 1])) Q:=by
 subst hrf
 have hnl:n < w.bs.length:=by rw [← hsl]; exact (List.getElem?_eq_some_iff.1 hx).1
 have hpl:=rankL_len hr
 have k1:=id_ans ⟨false,false,false,false,true⟩ ⟨w.t,w.prios,w.down,s.1⟩ n (show n < w.prios.length by omega)
 have hpa:prA ⟨w.t,w.prios,w.down,s.1⟩ n=prA w n:=rfl
 rw [hpa] at k1
 have hnv:=newN_ok hok hr (n:=n) (by omega)
 have k2:=New_ans false false (prA w n) (n:Nat) ((trunkL w.t n).map ofN) (costL w.t n) (by have:=trunk_24 hok (n:Nat); simp; omega)
 have hob:okB (newB (prA w n) (n:Nat) ((trunkL w.t n).map ofN) (costL w.t n))=true:=hnv.ok
 rw [if_pos hob] at k2
 have kt:=@trunks_fresh ⟨false,false,false,false,true⟩ ⟨w.t,w.prios,w.down,s.1⟩ n hok (show (n:Int) < w.t.nodes by omega) dd nn hn
 have hx5:∃ u1 u2 u3 u4 u5,bxC x=[u1,u2,u3,u4,u5]:=by
  unfold bxC
  split
  ·exact ⟨_,_,_,_,_,rfl⟩
  ·exact ⟨_,_,_,_,_,rfl⟩
 have gx:((s.1.map encX).map AV.t)[n]? = some (.t (.agg (bxC x))):=map_get (enc:=encX) hx
 have hslE:((s.1.map encX).map AV.t).length=w.bs.length:=by simp [hsl]
 have hset:=map_set (enc:=encX) (l:=s.1) (i:=n) (x:=newN w n)
 have hex:encX (newN w n)=brT true true true (newB (prA w n) (n:Nat) ((trunkL w.t n).map ofN) (costL w.t n)):=rfl
 rw [hex] at hset
 have hav:∀ (q:Nat→Bool) (y:T),avoidAll q (((s.1.map encX).map AV.t).set n (.t y))=true:=fun q y=>by rw [← List.map_set,av_map]
 have hq:=hQ
 have hr':nwN w s n=(s.1.set n (newN w n),w.bs.length):=rfl
 rw [hr'] at hq
 obtain ⟨u1,u2,u3,u4,u5,hu⟩:=hx5
 rw [hu] at hq gx ⊢
 have hdl2:((w.down.map B).map AV.t).length=w.down.length:=by simp
 simp only [hpNw,lpNw,List.cons_append,List.nil_append,nwA,bsRow,dnRow] at hq ⊢
 rw [← hset] at hq
 generalize newB (prA w n) (n:Nat) ((trunkL w.t n).map ofN) (costL w.t n)=B' at *
 with_reducible refine oB_yl (E:=tidyF (some [4,5,7]) E) rfl rfl rfl il15r0a_eq il15r0b_eq ?_
 (repeat' first|simp only [il15r0a,il15r0b,go_sem,hE,k1,k2,gx,hslE,hdl2,hnl,hmr,hav]|(with_reducible first|apply wD|apply wT|(apply wM; intro)|(apply wL; intro))|((with_reducible first|refine wA ?_ ?_|refine wE ?_); rfl))
 rw [call_freshS (ts:=[nwT ⟨false,false,false,false,true⟩ ⟨w.t,w.prios,w.down,s.1⟩,I (n:Nat)])]
 rotate_left
 ·rfl
 ·rfl
 ·simp only [go_sem]
 ·simp only [go_sem,hslE,hdl2,hmr]
 rw [freshST_some,oB_freshS]
 simp only [List.map_cons,List.map_nil,List.length_cons,List.length_nil,Nat.reduceAdd,Nat.zero_add]
 with_reducible refine @kt _ ?_
 have pl0:∀ (l:List Int),plainVs ((l.map I).map AV.t)=true:=fun l=>by
  induction l with
  | nil=>exact plVs_nil
  | cons a l ih=>rw [List.map_cons,List.map_cons,plVs_cons,ih,plV_t]; rfl
 have pl1:plainObjs [rowG 1 I ((trunkL w.t (n:Nat)).map ofN),rowG 1 I (costL w.t (n:Nat))]=true:=by simp only [rowG,plainObjs,pl0,Bool.and_self]
 have nm0:∀ (l:List Int),namesAll ((l.map I).map AV.t)=[]:=fun l=>by
  induction l with
  | nil=>rfl
  | cons a l ih=>simp only [List.map_cons,namesAll,names,ih,List.append_nil]
 have nm1:∀ (l:List Int),namesObj (some (rowG 1 I l))=[]:=fun l=>nm0 l
 have fg1:∀ (l:List Int) (hx:Heap) (p:Nat→Bool),frzObj hx p (rowG 1 I l)=some (rowG 1 I l):=fun l hx p=>frz_rowG
 have pa:∀ k,avoid (belowB 10) (.tup [.ms 10 k 0 k 1 false,.ms 11 k 0 k 1 false])=true:=fun k=>by simp [avoid,avoidAll,belowB]
 have pb:∀ (l:List Int),avoidObj (belowB 10) (rowG 1 I l)=true:=fun l=>by simp only [rowG,avoidObj,av_map]
 have htl:(trunkL w.t (n:Nat)).length=(((trunkL w.t (n:Nat)).map ofN).map I).length:=by simp
 have fz1:∀ (hx:Heap) (p:Nat→Bool),p 10=true→hx[10]? = some (rowG 1 I ((trunkL w.t (n:Nat)).map ofN))→frz hx p (.ms 10 (trunkL w.t (n:Nat)).length 0 (trunkL w.t (n:Nat)).length 1 false)=some (.t (.sl false 1 (((trunkL w.t (n:Nat)).map ofN).map I))):=fun hx p hp hg=>frz_msr (l:=(trunkL w.t (n:Nat)).map ofN) hp hg (Nat.zero_le _) (by simp)
 have fz2:∀ (hx:Heap) (p:Nat→Bool),p 11=true→hx[11]? = some (rowG 1 I (costL w.t (n:Nat)))→frz hx p (.ms 11 (trunkL w.t (n:Nat)).length 0 (trunkL w.t (n:Nat)).length 1 false)=some (.t (.sl false 1 ((costL w.t (n:Nat)).map I))):=fun hx p hp hg=>frz_msr (l:=costL w.t (n:Nat)) hp hg (Nat.zero_le _) (by simp [costL])
 (repeat' first|simp only [freshKS_app,freshK_app,List.replicate_succ,List.replicate_zero,List.drop_succ_cons,List.drop_zero,List.cons_append,List.nil_append,go_sem,hE,k1,k2,gx,hslE,hdl2,hnl,hmr,hav,fz1,fz2,fg1,nm1,pl1,pa,pb,List.drop_succ_cons,List.drop_zero]|(with_reducible first|apply wD|apply wT|(apply wM; intro)|(apply wL; intro))|((with_reducible first|refine wA ?_ ?_|refine wE ?_); rfl)|((with_reducible refine oB_inl il36_eq ?_ ?_); exact Nat.le_of_ble_eq_true rfl; simp only [il36c]))
 all_goals exact hq _
def newW (t:Tpo) (prios:List Int):Nw:=⟨t,prios,List.replicate t.links.length false,List.replicate t.nodes.toNat zBx⟩
def newL (w:Nw):List Bx:=(List.range w.bs.length).foldl (stS w.t (fun s n=>s.set n (newN w n))) w.bs
section
variable (c1 c2 c:Bool) (t:Tpo) (prios:List Int)
theorem New_ok (h:okT t=true) (h2:rankL t prios=true):ans Try.prog pol 15 [tpT c1 c2 t,.sl c 1 (prios.map I)]=some (.tup [nwT ⟨false,false,false,false,true⟩ ⟨t,prios,List.replicate t.links.length false,newL (newW t prios)⟩,I 0]):=by
 obtain ⟨z1,z2,z3⟩:=okT_size h
 obtain ⟨N,hN⟩:∃ N:Nat,t.nodes=(N:Nat):=⟨t.nodes.toNat,by omega⟩
 obtain ⟨nodes,st,lks⟩:=t
 dsimp only at hN z1 z2 z3
 subst hN
 have hpl:=rankL_len h2
 dsimp only at hpl
 have k1:=Check_ans c1 c2 ⟨(N:Nat),st,lks⟩
 rw [if_pos h] at k1
 have k2:=ranked_ans c c1 c2 ⟨(N:Nat),st,lks⟩ prios (by omega)
 rw [h2] at k2
 have hroom1:1*lks.length≤roomB:=by rw [Nat.mul_comm]; exact ap_room (by omega) (by omega)
 have hroom2:88*N≤roomB:=by rw [Nat.mul_comm]; exact ap_room (by omega) (by omega)
 have hbig1:lks.length≤9223372036854775807:=by omega
 have hbig2:N≤9223372036854775807:=by omega
 obtain ⟨nn,h2000⟩:∃ nn,2000 < nn:=⟨2001,by omega⟩
 have hn1:1000 < nn:=by omega
 have hn2:200 < nn:=by omega
 refine ans_go nn 5 il15_eq (Nat.le_of_ble_eq_true rfl) ?_
 simp only [il15c]
 generalize hrf:rfOf Try.prog 15 0=rf
 (repeat' first|simp only [List.cons_append,List.nil_append,go_sem,k1,k2,hroom1,hroom2,hbig1,hbig2]|(with_reducible first|apply wD|apply wT|(apply wM; intro)|(apply wL; intro))|((with_reducible first|refine wA ?_ ?_|refine wE ?_); rfl))
 have e1:List.replicate lks.length (T.sc (Value.bool false))=(List.replicate lks.length false).map B:=by simp
 have e2:List.replicate N (T.agg [T.sc (Value.int IntKind.i64 0),T.sc (Value.int IntKind.i64 0),T.sc (Value.slice none 0 0),T.sc (Value.slice none 0 0),T.sc (Value.slice none 0 0)])=(List.replicate N zBx).map encX:=by simp [encX,bxC,zBx]
 rw [e1,e2]
 obtain ⟨w,hw⟩:∃ w:Nw,w=⟨⟨(N:Nat),st,lks⟩,prios,List.replicate lks.length false,List.replicate N zBx⟩:=⟨_,rfl⟩
 have hwt:w.t=⟨(N:Nat),st,lks⟩:=by rw [hw]
 have hwp:w.prios=prios:=by rw [hw]
 have hwd:w.down=List.replicate lks.length false:=by rw [hw]
 have hwb:w.bs=List.replicate N zBx:=by rw [hw]
 have hne:w.down≠[]:=by
  have hl:=links_ne h
  rw [hwd]
  intro h0
  have:lks.length=0:=by simpa using congrArg List.length h0
  exact hl (List.eq_nil_of_length_eq_zero this)
 have hargs:AV.t (T.agg [I (N:Nat),T.sl c1 1 (List.map B st),T.sl c2 4 (List.map encK lks),T.sl c 1 (List.map I prios),T.sl true 1 (List.map B (List.replicate lks.length false)),T.sl true 5 (List.map encX (List.replicate N zBx))])=.t (nwT ⟨c1,c2,c,true,true⟩ w):=by rw [hw]
 rw [hargs]
 have hcp:w.bs.map cpX=w.bs:=by rw [hwb,List.map_replicate]; rfl
 have hres:newL (newW ⟨(N:Nat),st,lks⟩ prios)=newL w:=by rw [hw,newW]; rfl
 rw [hres,← hwd]
 have hwN:w.bs.length=N:=by rw [hwb]; simp
 have hwD:w.down.length=lks.length:=by rw [hwd]; simp
 have b1:w.prios.length≤900:=by rw [hwp]; omega
 have b2:w.down.length≤900:=by omega
 have b3:w.bs.length≤900:=by omega
 have b4:w.t.station.length≤900:=by rw [hwt]; show st.length≤900; omega
 have b5:w.t.links.length≤900:=by rw [hwt]; show lks.length≤900; omega
 have b6:∀ x∈w.bs,x.b.ports.length≤900∧x.b.costs.length≤900∧x.b.heard.length≤900:=by
  rw [hwb]; intro x hx; rw [List.eq_of_mem_replicate hx]; simp [zBx,zBr]
 have hgoal:(⟨⟨(N:Nat),st,lks⟩,prios,w.down,newL w⟩:Nw)=⟨w.t,w.prios,w.down,newL w⟩:=by rw [hwt,hwp]
 rw [hgoal]
 rw [← hwt] at h h2
 rw [← hwp] at h2
 have hbl:(w.bs.length:Int)=w.t.nodes:=by rw [hwt,hwN]
 have hst:(w.t.station.length:Int)=w.t.nodes:=by rw [hwt]; exact z2
 have hb100:w.bs.length≤100:=by omega
 clear hargs hres hgoal hwt hwp hwb e1 e2 k1 k2 hw hwd
 with_reducible refine copied_fresh ⟨c1,c2,c,true,true⟩ w hne b1 b2 b3 b4 b5 b6 2 3 nn hn1 _ ?_
 intro mr hmr
 rw [hcp]
 have a1:avoidAll (belowB 2) [.agg (nwA 3 5 w)]=true:=by simp [nwA,avoidAll,avoid,belowB]
 simp only [nwA,dnRow,bsRow,Nat.reduceAdd] at a1 ⊢
 (repeat' first|simp only [freshK_app,List.replicate_succ,List.replicate_zero,List.drop_succ_cons,List.drop_zero,List.cons_append,List.nil_append,go_sem,av_map,a1,List.drop_succ_cons,List.drop_zero,hmr]|(with_reducible first|apply wD|apply wT|(apply wM; intro)|(apply wL; intro))|((with_reducible first|refine wA ?_ ?_|refine wE ?_); rfl)|((with_reducible refine oB_inl il26_eq ?_ ?_); exact Nat.le_of_ble_eq_true rfl; simp only [il26c]))
 have key:∀ E:FEnv,([.row 6 [.t zN6] 0,.row 1 [.t (I 0)] 0,.row 6 [.agg (nwA 3 5 w)] 1,dnRow w,.row 6 [.agg (nwA 3 5 w)] 1,bsRow w.bs mr,.row 6 [.agg (nwA 3 5 w)] 1,.row 6 [.agg (nwA 3 5 w)] 0,.loop 15 (lpEnv 66 (tidyF (some [4,5,7]) E)) [37,38] rf.1 rf.2 false none]:Heap)=hpNw w rf E false (w.bs,mr):=fun E=>rfl
 simp only [nwA,bsRow,dnRow] at key
 rw [key]
 have h89:8 < 9:=by omega
 have h79:7 < 9:=by omega
 have h59:5 < 9:=by omega
 have h01:0≤1:=by omega
 have hI0:(w.bs,mr).1.length=w.bs.length∧(w.bs,mr).2≤w.bs.length:=⟨rfl,hmr⟩
 have hnx:∀ (s:List Bx × Nat) n,s.1.length=w.bs.length∧s.2≤w.bs.length→(nwN w s n).1.length=w.bs.length∧(nwN w s n).2≤w.bs.length:=fun s n h=>⟨by simp [nwN,h.1],Nat.le_refl _⟩
 let σ:={ s:List Bx × Nat // s.1.length=w.bs.length∧s.2≤w.bs.length }
 let nx:σ→Nat→σ:=fun s n=>⟨nwN w s.1 n,hnx s.1 n s.2⟩
 have hstv:∀ (s:σ) n,(stS w.t nx s n).1=stS w.t (nwN w) s.1 n:=fun s n=>by
  unfold stS
  by_cases q:stA w.t n=true
  ·rw [if_pos q,if_pos q]
  ·rw [if_neg q,if_neg q]
 have hfv:∀ (s:σ) k,((List.range k).foldl (stS w.t nx) s).1=(List.range k).foldl (stS w.t (nwN w)) s.1:=by
  intro s k
  induction k with
  | zero=>rfl
  | succ k ih =>
   rw [List.range_succ,List.foldl_append,List.foldl_append,List.foldl_cons,List.foldl_cons,List.foldl_nil,List.foldl_nil,hstv,ih]
 have hLs:∀ s:σ,s.1.1.length=w.bs.length:=fun s=>s.2.1
 have hs0:∀ E:FEnv,hpNw w rf E false (w.bs,mr)=(fun s:σ=>hpNw w rf E false s.1) ⟨(w.bs,mr),hI0⟩:=fun E=>rfl
 rw [hs0]
 have hcl:newL w=((List.range w.bs.length).foldl (stS w.t (nwN w)) (w.bs,mr)).1:=by
  rw [fold_fst _ _ (stS_fst w.t (nwN w) (fun s n=>s.set n (newN w n)) (fun _ _=>rfl))]; rfl
 have hdl2:((w.down.map B).map AV.t).length=w.down.length:=by simp
 with_reducible refine @all_iterR σ (fun s:σ=>hpNw w rf _ false s.1) 9 (fun s=>rfl) nx 4 nn 8 (fun n s=>True) w (fun _ _ _ _=>trivial) ?_ h89 7 3 5 0 h79 h01 h59 (fun s=>s.1.1) (fun s=>s.1.2) hLs (fun s=>s.2.2) (fun _ _=>rfl) (fun _ _=>rfl) hst hbl hb100 ?_ ⟨(w.bs,mr),hI0⟩ trivial _ hn2 ?_
 ·intro s h q hq
  exact hpNw_frz w rf _ (by simp only [go_sem]) false s.1 h q hq
 ·intro s n x Q hx hs _ hQ
  have hQ':∀ X',Q (.t (B true)) (hpNw w rf _ false (nwN w s.1 n)++[.row 5 [.t (.agg (bxC x))] 1]++X'):=hQ
  with_reducible exact @new_yield rf hrf w h h2 hbl _ (by simp only [go_sem]) s.1 s.2.1 s.2.2 n x hx 2 nn hn2 Q hQ'
 ·intro v
  have hfin:=((List.range w.bs.length).foldl (stS w.t nx) ⟨(w.bs,mr),hI0⟩).2
  change rfEnd _ _ _ v (hpNw w rf _ false ((List.range w.bs.length).foldl (stS w.t nx) ⟨(w.bs,mr),hI0⟩).1)
  rw [hfv] at hfin ⊢
  rw [hcl]
  generalize (List.range w.bs.length).foldl (stS w.t (nwN w)) (w.bs,mr)=s at *
  obtain ⟨hf1,hf2⟩:=hfin
  have hl4:((s.1.map encX).map AV.t).length=w.bs.length:=by simp [hf1]
  simp only [hpNw,lpNw,List.cons_append,List.nil_append,nwA,bsRow,dnRow]
  (repeat' first|simp only [il15c,go_sem,frz_mapA,hdl2,hl4,hf2]|(with_reducible first|apply wD|apply wT|(apply wM; intro)|(apply wL; intro))|((with_reducible first|refine wA ?_ ?_|refine wE ?_); rfl))
end
end Go.Proofs.Ytbibdnlbpjnieaa
namespace Go.Proofs.Ytbibdnlbpjnieaa
open Go Go.Abs
structure VN (w:Nw):Prop where
 t:okT w.t=true
 rank:rankL w.t w.prios=true
 bl:(w.bs.length:Int)=w.t.nodes
 dl:w.down.length=w.t.links.length
 vb:vBs w w.bs
 qt:∀ q,trP w.t q→dnA w (q / 2)=true→(hAt w.t w.bs q).is=false
 st:∀ n x,w.bs[n]? = some x→stA w.t n=true→emptyB x.b=true∧(x.z=true→x.b=zBr)
theorem VN.ok {w:Nw} (h:VN w):okN w=true:=by
 simp only [okN,Bool.and_eq_true]
 refine ⟨h.t,h.rank,decide_eq_true h.bl,decide_eq_true h.dl,?_⟩
 rw [List.all_eq_true]
 intro n hn
 have hn:=List.mem_range.1 hn
 obtain ⟨x,hx⟩:∃ x,w.bs[n]? = some x:=⟨w.bs[n],by simp [hn]⟩
 have hbx:bxA w n=x:=by simp [bxA,hx]
 unfold soundN
 rw [hbx]
 by_cases hs:stA w.t n=true
 ·rw [if_pos hs]; exact (h.st n x hx hs).1
 ·rw [if_neg hs]
  have hs':stA w.t n=false:=by simpa using hs
  obtain ⟨h1,h2⟩:=h.vb.2 n x hx hs'
  simp only [Bool.and_eq_true]
  refine ⟨h2.ok,decide_eq_true ⟨h2.ip,h2.id⟩,decide_eq_true h2.ports,decide_eq_true h2.costs,?_⟩
  rw [quietB,List.all_eq_true]
  intro i hi
  have hi:=List.mem_range.1 hi
  have hp:(trunkL w.t (n:Nat))[i]? = some (trunkL w.t (n:Nat))[i]:=by simp [hi]
  rw [hp]
  generalize (trunkL w.t (n:Nat))[i]=p at hp
  have hm:=List.mem_of_getElem? hp
  have htr:=trP_of hs' hm
  have hq:=h.qt p htr
  have hf:=(mem_trunk.1 hm).2.1
  rw [hAt,hf,Int.toNat_natCast,ixP_at hp] at hq
  have:bsA w.bs n=x.b:=by simp [bsA,hx]
  rw [this] at hq
  simp only [Option.getD_some]
  cases hd:dnA w (p / 2) with
  | false=>rfl
  | true=>rw [hq hd]; rfl
theorem VN.z {w:Nw} (h:VN w):zOk w:=by
 intro n hn hz
 obtain ⟨x,hx⟩:∃ x,w.bs[n]? = some x:=⟨w.bs[n],by simp [hn]⟩
 have hbx:bxA w n=x:=by simp [bxA,hx]
 rw [hbx] at hz ⊢
 by_cases hs:stA w.t n=true
 ·exact ⟨hs,(h.st n x hx hs).2 hz⟩
 ·have:=(h.vb.2 n x hx (by simpa using hs)).1
  rw [this] at hz; cases hz
theorem VN.of {w:Nw} (h:okN w=true) (hz:zOk w):VN w:=by
 have hO:=okN_ok h hz
 simp only [okN,Bool.and_eq_true] at h
 obtain ⟨_,_,_,_,h5⟩:=h
 have hso:∀ n x,w.bs[n]? = some x→soundN w n=true∧bxA w n=x:=by
  intro n x hx
  exact ⟨List.all_eq_true.1 h5 n (List.mem_range.2 (List.getElem?_eq_some_iff.1 hx).1),by simp [bxA,hx]⟩
 refine ⟨hO.t,hO.rank,hO.bl,hO.dl,hO.vb,fun q hq hd=>?_,fun n x hx hs=>?_⟩
 ·obtain ⟨n,x,h1,h2,h3,h4,h5,h6,h7,h8⟩:=vBs_at hO.t hO.bl hO.vb hq
  obtain ⟨k1,k2⟩:=hso n x h3
  have hst:stA w.t n=false:=by have:=hq.2.1; rwa [h1,Int.toNat_natCast] at this
  rw [soundN,if_neg (by rw [hst]; simp),k2] at k1
  simp only [Bool.and_eq_true] at k1
  have hqu:=k1.2.2.2.2
  rw [quietB,List.all_eq_true] at hqu
  have hix:=ixP_spec (trP_mem hq)
  have h9:=hqu (ixP w.t q) (List.mem_range.2 (by rw [← h1]; exact hix.1))
  rw [← h1,hix.2.1] at h9
  simp only [Option.getD_some,hd,Bool.true_and,Bool.not_eq_true'] at h9
  rw [hAt,h1,Int.toNat_natCast,h4]
  exact h9
 ·obtain ⟨k1,k2⟩:=hso n x hx
  rw [soundN,if_pos hs,k2] at k1
  refine ⟨k1,fun hz'=>?_⟩
  have:=hz n (List.getElem?_eq_some_iff.1 hx).1 (by rw [k2]; exact hz')
  rw [k2] at this
  exact this.2
theorem VN.b6 {w:Nw} (h:VN w):∀ x∈w.bs,x.b.ports.length≤900∧x.b.costs.length≤900∧x.b.heard.length≤900:=by
 intro x hx
 obtain ⟨n,hn⟩:=List.mem_iff_getElem?.1 hx
 by_cases hs:stA w.t n=true
 ·have:=(h.st n x hn hs).1
  simp only [emptyB,decide_eq_true_eq] at this
  omega
 ·have:=okB_len (h.vb.2 n x hn (by simpa using hs)).2.ok
  simp only [okL] at this
  omega
theorem vBs_mv {w w':Nw} {bs:List Bx} (h1:w'.t=w.t) (h2:w'.prios=w.prios) (h3:w'.bs.length=w.bs.length) (h:vBs w bs):vBs w' bs:=by
 refine ⟨by rw [h.1,h3],fun n x hx hs=>?_⟩
 rw [h1] at hs
 obtain ⟨a,b⟩:=h.2 n x hx hs
 refine ⟨a,b.ok,?_,b.id,?_,?_⟩
 ·rw [b.ip]; simp only [prA,h2]
 ·rw [b.ports,h1]
 ·rw [b.costs,h1]
theorem hAt_cpX (t:Tpo) (bs:List Bx) (q:Nat):hAt t (bs.map cpX) q=hAt t bs q:=by
 have:∀ n,bsA (bs.map cpX) n=bsA bs n:=by
  intro n
  simp only [bsA,List.getElem?_map]
  cases bs[n]? with
  | none=>rfl
  | some x=>simp only [Option.map_some,Option.getD_some,cpX]; split <;> rfl
 simp only [hAt,this]
theorem cpX_st {bs:List Bx} {P:Bx→Prop} (hP:∀ x,P x→P (cpX x)) {n:Nat} {x:Bx} (hx:(bs.map cpX)[n]? = some x) (h:∀ y,bs[n]? = some y→P y):P x:=by
 rw [List.getElem?_map,Option.map_eq_some_iff] at hx
 obtain ⟨y,hy,rfl⟩:=hx
 exact hP y (h y hy)
theorem cpX_P (x:Bx) (h:emptyB x.b=true∧(x.z=true→x.b=zBr)):emptyB (cpX x).b=true∧((cpX x).z=true→(cpX x).b=zBr):=by
 unfold cpX
 split
 ·exact h
 ·exact ⟨h.1,fun h=>(by cases h)⟩
def rndW (w:Nw):Nw:=⟨w.t,w.prios,w.down,rndL w (w.bs.map cpX)⟩
theorem VN.rnd {w:Nw} (h:VN w):VN (rndW w):=by
 have hv:=vBs_cpX h.vb
 obtain ⟨r1,r2,r3⟩:=rnd_at h.t h.bl hv
 have hl:(rndW w).bs.length=w.bs.length:=r1.1
 refine ⟨h.t,h.rank,?_,h.dl,vBs_mv (w:=w) rfl rfl hl r1,fun q hq hd=>?_,fun n x hx hs=>?_⟩
 ·show ((rndW w).bs.length:Int)=w.t.nodes
  rw [hl]; exact h.bl
 ·have h1:=r3 q hq
  have hd':dnA w (q / 2)=true:=hd
  rw [if_neg (fun h=>by rw [hd'] at h; cases h.2),hAt_cpX] at h1
  have h2:=h.qt q hq hd'
  show (hAt w.t (rndL w (w.bs.map cpX)) q).is=false
  rw [h1,tickH,if_pos h2,h2]
 ·have hx':(rndL w (w.bs.map cpX))[n]? = some x:=hx
  rw [r2 n hs] at hx'
  exact cpX_st (P:=fun x=>emptyB x.b=true∧(x.z=true→x.b=zBr)) cpX_P hx' (fun y hy=>h.st n y hy hs)
theorem fgL_at {w:Nw} (hok:okT w.t=true) (hbl:(w.bs.length:Int)=w.t.nodes) (j:Nat) {n:Nat} (hn:n < w.bs.length) (hst:stA w.t n=false) {bs:List Bx} (hv:vBs w bs) :
  vBs w (fgL w j bs n)∧(∀ m,m≠n→(fgL w j bs n)[m]? = bs[m]?)∧∀ q,trP w.t q→frP w.t q=(n:Nat)→hAt w.t (fgL w j bs n) q=if q / 2=j then zH else hAt w.t bs q:=by
 have key:∀ k,k≤(trunkL w.t n).length→vBs w ((List.range k).foldl (fun s i=>if ((trunkL w.t n)[i]?.getD 0) / 2=j then s.set n (fgB (s[n]?.getD zBx).b i) else s) bs)∧(∀ m,m≠n→((List.range k).foldl (fun s i=>if ((trunkL w.t n)[i]?.getD 0) / 2=j then s.set n (fgB (s[n]?.getD zBx).b i) else s) bs)[m]? = bs[m]?) ∧
   ∀ q,trP w.t q→frP w.t q=(n:Nat)→hAt w.t ((List.range k).foldl (fun s i=>if ((trunkL w.t n)[i]?.getD 0) / 2=j then s.set n (fgB (s[n]?.getD zBx).b i) else s) bs) q=if ixP w.t q < k∧q / 2=j then zH else hAt w.t bs q:=by
  intro k
  induction k with
  | zero=>intro _; exact ⟨hv,fun _ _=>rfl,fun q _ _=>by rw [if_neg (fun h=>by omega)]; rfl⟩
  | succ k ih =>
   intro hk
   obtain ⟨i1,i2,i3⟩:=ih (by omega)
   rw [List.range_succ,List.foldl_append,List.foldl_cons,List.foldl_nil]
   generalize (List.range k).foldl (fun s i=>if ((trunkL w.t n)[i]?.getD 0) / 2=j then s.set n (fgB (s[n]?.getD zBx).b i) else s) bs=S at *
   have hp:(trunkL w.t n)[k]? = some (trunkL w.t n)[k]:=by simp [show k < (trunkL w.t n).length by omega]
   generalize (trunkL w.t n)[k]=p at hp
   rw [hp]
   simp only [Option.getD_some]
   have hptr:=trP_of hst (List.mem_of_getElem? hp)
   have hpf:=(mem_trunk.1 (List.mem_of_getElem? hp)).2.1
   have hpi:=ixP_at hp
   by_cases hj:p / 2=j
   ·rw [if_pos hj]
    have hv2:vBs w (S.set n (fgB (S[n]?.getD zBx).b k)):=by
     have:=(fgQ_ok (w:=w) (j:=j) (n:=n) (i:=k) (p:=p) (s:=(S,0)) i1 (Nat.zero_le _) hst).1
     rw [fgQ,if_pos hj] at this
     exact this
    refine ⟨hv2,fun m hm=>by rw [List.getElem?_set_ne (fun h=>hm h.symm),i2 m hm],fun q hq hf=>?_⟩
    obtain ⟨n',x,h1,h2,h3,h4,h5,h6,h7,h8⟩:=vBs_at hok hbl i1 hq
    rw [hf] at h1
    obtain rfl:n=n':=by omega
    have hlt:n < S.length:=(List.getElem?_eq_some_iff.1 h3).1
    have e1:bsA (S.set n (fgB (S[n]?.getD zBx).b k)) n=putB x.b (x.b.heard.set k zH):=by rw [bsA,List.getElem?_set_self hlt,h3]; rfl
    have h9:=i3 q hq hf
    rw [hAt,hf,Int.toNat_natCast,h4] at h9
    rw [hAt,hf,Int.toNat_natCast,e1]
    by_cases hqk:ixP w.t q=k
    ·have hqp:q=p:=ixP_inj hq hptr (by rw [hf,hpf]) (by rw [hqk,hpi])
     rw [if_pos ⟨by omega,by rw [hqp]; exact hj⟩]
     rw [hqk] at h8 ⊢
     simp [hrd,putB,h8]
    ·have e2:hrd (putB x.b (x.b.heard.set k zH)) (ixP w.t q)=hrd x.b (ixP w.t q):=by
      simp only [hrd,putB]
      rw [List.getElem?_set_ne (fun h=>hqk h.symm)]
     rw [e2,h9]
     have:(ixP w.t q < k+1∧q / 2=j)↔(ixP w.t q < k∧q / 2=j):=by constructor <;> rintro ⟨h1,h2⟩ <;> exact ⟨by omega,h2⟩
     simp only [this]
   ·rw [if_neg hj]
    refine ⟨i1,i2,fun q hq hf=>?_⟩
    rw [i3 q hq hf]
    by_cases hqk:ixP w.t q=k
    ·have hqp:q=p:=ixP_inj hq hptr (by rw [hf,hpf]) (by rw [hqk,hpi])
     rw [if_neg (fun h=>hj (by rw [← hqp]; exact h.2)),if_neg (fun h=>hj (by rw [← hqp]; exact h.2))]
    ·have:(ixP w.t q < k+1∧q / 2=j)↔(ixP w.t q < k∧q / 2=j):=by constructor <;> rintro ⟨h1,h2⟩ <;> exact ⟨by omega,h2⟩
     simp only [this]
 obtain ⟨k1,k2,k3⟩:=key _ (Nat.le_refl _)
 refine ⟨k1,k2,fun q hq hf=>?_⟩
 have:=k3 q hq hf
 have hix:=(ixP_spec (trP_mem hq)).1
 rw [hf] at hix
 simp only [hix,true_and] at this
 exact this
theorem cut_at {w:Nw} (h:VN w) (j:Nat):vBs w (cutL w j)∧(∀ n,stA w.t n=true→(cutL w j)[n]? = (w.bs.map cpX)[n]?)∧∀ q,trP w.t q→hAt w.t (cutL w j) q=if q / 2=j then zH else hAt w.t w.bs q:=by
 have hv:=vBs_cpX h.vb
 have key:∀ k,k≤w.bs.length→vBs w ((List.range k).foldl (stS w.t (fgL w j)) (w.bs.map cpX))∧(∀ n,stA w.t n=true→((List.range k).foldl (stS w.t (fgL w j)) (w.bs.map cpX))[n]? = (w.bs.map cpX)[n]?) ∧
   ∀ q,trP w.t q→hAt w.t ((List.range k).foldl (stS w.t (fgL w j)) (w.bs.map cpX)) q=if (frP w.t q < (k:Nat))∧q / 2=j then zH else hAt w.t w.bs q:=by
  intro k
  induction k with
  | zero =>
   intro _
   refine ⟨hv,fun _ _=>rfl,fun q hq=>?_⟩
   have:=(frP_node h.t hq.1).1
   rw [if_neg (fun h=>by omega)]
   exact hAt_cpX _ _ _
  | succ k ih =>
   intro hk
   obtain ⟨i1,i2,i3⟩:=ih (by omega)
   rw [List.range_succ,List.foldl_append,List.foldl_cons,List.foldl_nil]
   generalize (List.range k).foldl (stS w.t (fgL w j)) (w.bs.map cpX)=S at *
   unfold stS
   by_cases hs:stA w.t k=true
   ·rw [if_pos hs]
    refine ⟨i1,i2,fun q hq=>?_⟩
    rw [i3 q hq]
    have hne:frP w.t q≠(k:Nat):=fun h=>by have:=hq.2.1; rw [h,Int.toNat_natCast,hs] at this; cases this
    have:(frP w.t q < ((k+1:Nat):Int)∧q / 2=j)↔(frP w.t q < (k:Nat)∧q / 2=j):=by constructor <;> rintro ⟨h1,h2⟩ <;> exact ⟨by omega,h2⟩
    simp only [this]
   ·rw [if_neg hs]
    have hs':stA w.t k=false:=by simpa using hs
    obtain ⟨f1,f2,f3⟩:=fgL_at h.t h.bl j (show k < w.bs.length by omega) hs' i1
    refine ⟨f1,fun n hn=>by rw [f2 n (fun h=>by rw [h,hs'] at hn; cases hn),i2 n hn],fun q hq=>?_⟩
    by_cases hf:frP w.t q=(k:Nat)
    ·rw [f3 q hq hf,i3 q hq]
     by_cases hj:q / 2=j
     ·rw [if_pos hj,if_pos ⟨by omega,hj⟩]
     ·rw [if_neg hj,if_neg (fun h=>hj h.2),if_neg (fun h=>hj h.2)]
    ·have e1:hAt w.t (fgL w j S k) q=hAt w.t S q:=by
      simp only [hAt,bsA]
      rw [f2 _ (fun h'=>hf (by have:=(frP_node h.t hq.1).1; omega))]
     rw [e1,i3 q hq]
     have:(frP w.t q < ((k+1:Nat):Int)∧q / 2=j)↔(frP w.t q < (k:Nat)∧q / 2=j):=by constructor <;> rintro ⟨h1,h2⟩ <;> exact ⟨by omega,h2⟩
     simp only [this]
 obtain ⟨k1,k2,k3⟩:=key _ (Nat.le_refl _)
 refine ⟨k1,k2,fun q hq=>?_⟩
 have h1:=k3 q hq
 have h2:=frP_node h.t hq.1
 have h3:frP w.t q < (w.bs.length:Nat):=by rw [h.bl]; exact h2.2
 simp only [h3,true_and] at h1
 exact h1
theorem VN.cut {w:Nw} (h:VN w) (j:Nat):VN ⟨w.t,w.prios,w.down.set j true,cutL w j⟩:=by
 obtain ⟨c1,c2,c3⟩:=cut_at h j
 refine ⟨h.t,h.rank,by show ((cutL w j).length:Int)=_; rw [c1.1]; exact h.bl,by simpa using h.dl,vBs_mv (w:=w) rfl rfl c1.1 c1,fun q hq hd=>?_,fun n x hx hs=>?_⟩
 ·have h1:=c3 q hq
  show (hAt w.t (cutL w j) q).is=false
  rw [h1]
  split
  ·rfl
  ·rename_i hj
   refine h.qt q hq ?_
   simp only [dnA] at hd ⊢
   rw [List.getElem?_set_ne (fun h=>hj h.symm)] at hd
   exact hd
 ·have hx':(cutL w j)[n]? = some x:=hx
  rw [c2 n hs] at hx'
  exact cpX_st (P:=fun x=>emptyB x.b=true∧(x.z=true→x.b=zBr)) cpX_P hx' (fun y hy=>h.st n y hy hs)
theorem newL_get (w:Nw):(newL w).length=w.bs.length∧∀ n,(newL w)[n]? = if n < w.bs.length∧stA w.t n=false then some (newN w n) else w.bs[n]?:=by
 have key:∀ k,k≤w.bs.length→((List.range k).foldl (stS w.t (fun s n=>s.set n (newN w n))) w.bs).length=w.bs.length∧∀ n,((List.range k).foldl (stS w.t (fun s n=>s.set n (newN w n))) w.bs)[n]? = if n < k∧stA w.t n=false then some (newN w n) else w.bs[n]?:=by
  intro k
  induction k with
  | zero=>intro _; exact ⟨rfl,fun n=>by rw [if_neg (fun h=>by omega)]; rfl⟩
  | succ k ih =>
   intro hk
   obtain ⟨i1,i2⟩:=ih (by omega)
   rw [List.range_succ,List.foldl_append,List.foldl_cons,List.foldl_nil]
   generalize (List.range k).foldl (stS w.t (fun s n=>s.set n (newN w n))) w.bs=S at *
   unfold stS
   have hiff:∀ n,n≠k→((n < k+1∧stA w.t n=false)↔(n < k∧stA w.t n=false)):=by intro n hn; constructor <;> rintro ⟨h1,h2⟩ <;> exact ⟨by omega,h2⟩
   by_cases hs:stA w.t k=true
   ·rw [if_pos hs]
    refine ⟨i1,fun n=>?_⟩
    rw [i2 n]
    by_cases hn:n=k
    ·subst hn; rw [if_neg (fun h=>by omega),if_neg (fun h=>by rw [hs] at h; cases h.2)]
    ·simp only [hiff n hn]
   ·rw [if_neg hs]
    refine ⟨by simp [i1],fun n=>?_⟩
    by_cases hn:n=k
    ·subst hn; rw [if_pos ⟨by omega,by simpa using hs⟩,List.getElem?_set_self (by omega)]
    ·rw [List.getElem?_set_ne (fun h=>hn h.symm),i2 n]
     simp only [hiff n hn]
 exact key _ (Nat.le_refl _)
theorem VN.new {t:Tpo} {prios:List Int} (h:okT t=true) (h2:rankL t prios=true):VN ⟨t,prios,List.replicate t.links.length false,newL (newW t prios)⟩:=by
 obtain ⟨z1,z2,z3⟩:=okT_size h
 obtain ⟨n1,n2⟩:=newL_get (newW t prios)
 have hl:(newW t prios).bs.length=t.nodes.toNat:=by simp [newW]
 rw [hl] at n1 n2
 have hd:∀ i,(dnA ⟨t,prios,List.replicate t.links.length false,newL (newW t prios)⟩ i)=false:=by
  intro i
  simp only [dnA]
  rw [List.getElem?_replicate]
  split <;> rfl
 refine ⟨h,h2,by show ((newL (newW t prios)).length:Int)=_; rw [n1]; show ((t.nodes.toNat:Nat):Int)=t.nodes; omega,by simp,⟨rfl,fun n x hx hs=>?_⟩,fun q hq hq2=>(by rw [hd] at hq2; cases hq2),fun n x hx hs=>?_⟩
 ·have hx':(newL (newW t prios))[n]? = some x:=hx
  have hlt:n < t.nodes.toNat:=by rw [← n1]; exact (List.getElem?_eq_some_iff.1 hx').1
  have hs':stA (newW t prios).t n=false:=hs
  rw [n2 n,if_pos ⟨hlt,hs'⟩] at hx'
  obtain rfl:=Option.some.inj hx'
  have hv:=newN_ok (w:=newW t prios) h h2 (n:=n) (by show (n:Int) < t.nodes; omega)
  exact ⟨rfl,hv.ok,hv.ip,hv.id,hv.ports,hv.costs⟩
 ·have hx':(newL (newW t prios))[n]? = some x:=hx
  have hs':stA (newW t prios).t n=true:=hs
  rw [n2 n,if_neg (fun h=>by rw [hs'] at h; cases h.2)] at hx'
  have hxz:x=zBx:=by
   have h3:x∈(newW t prios).bs:=List.mem_of_getElem? hx'
   simp only [newW] at h3
   exact List.eq_of_mem_replicate h3
  rw [hxz]
  exact ⟨rfl,fun _=>rfl⟩
end Go.Proofs.Ytbibdnlbpjnieaa
