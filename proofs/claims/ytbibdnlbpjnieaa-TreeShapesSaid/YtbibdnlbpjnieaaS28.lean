/- Part 28 of the proof of TreeShapes. -/
import Derived.Test.YtbibdnlbpjnieaaS27
set_option linter.all false
set_option maxRecDepth 100000
set_option maxHeartbeats 4000000
namespace Go.Proofs.Ytbibdnlbpjnieaa
open Go Go.Abs
def dg (n:Int) (L:List Lk):Int:=L.foldr (fun l s=>s+(if l.a=n then 1 else 0)+(if l.b=n then 1 else 0)) 0
theorem dg_app (n:Int) (L:List Lk) (l:Lk):dg n (L++[l])=dg n L+(if l.a=n then 1 else 0)+(if l.b=n then 1 else 0):=by
 induction L with
 | nil=>simp [dg]
 | cons x L ih =>
  simp only [dg,List.cons_append,List.foldr_cons] at ih ⊢
  rw [ih]
  omega
theorem dg_mk (n:Int) (L:List Lk) (d:Dr) (k:Nat) (a b:Int):dg n (L++[mkK d k a b])=dg n L+(if a=n then 1 else 0)+(if b=n then 1 else 0):=dg_app n L _
theorem dg_zero {n:Int} {L:List Lk} (h:∀ l∈L,l.a≠n∧l.b≠n):dg n L=0:=by
 induction L with
 | nil=>rfl
 | cons x L ih =>
  have h0:=h x (by simp)
  have:=ih (fun l hl=>h l (by simp [hl]))
  simp only [dg,List.foldr_cons] at this ⊢
  rw [this,if_neg h0.1,if_neg h0.2]; rfl
theorem degs_dg {N:Nat}:∀ (L:List Lk) (m:List Int),(∀ l∈L,(0≤l.a∧l.a.toNat < N)∧(0≤l.b∧l.b.toNat < N)∧l.a≠l.b)→m.length=N→∀ n:Nat,n < N→iA (L.foldl dStep m) (n:Nat)=iA m (n:Nat)+dg (n:Nat) L:=by
 intro L
 induction L with
 | nil=>intro m _ _ n _; simp [dg]
 | cons l L ih =>
  intro m hv hm n hn
  obtain ⟨⟨a0,a1⟩,⟨b0,b1⟩,hab⟩:=hv l (by simp)
  rw [List.foldl_cons,ih (dStep m l) (fun x hx=>hv x (by simp [hx])) (by simp [dStep,hm]) n hn]
  have hstep:iA (dStep m l) (n:Nat)=iA m (n:Nat)+(if l.a=(n:Nat) then 1 else 0)+(if l.b=(n:Nat) then 1 else 0):=by
   have hne:l.a.toNat≠l.b.toNat:=fun h=>hab (by omega)
   simp only [dStep,iA,Int.toNat_natCast]
   by_cases hb:l.b.toNat=n
   ·have hb':l.b=(n:Nat):=by omega
    have ha':¬ l.a=(n:Nat):=by omega
    subst hb
    rw [List.getElem?_set_self (by simp; omega),if_pos hb',if_neg ha',List.getElem?_set_ne hne]
    simp
   ·have hb':¬ l.b=(n:Nat):=by omega
    rw [List.getElem?_set_ne hb,if_neg hb']
    by_cases ha:l.a.toNat=n
    ·have ha':l.a=(n:Nat):=by omega
     subst ha
     rw [List.getElem?_set_self (by omega),if_pos ha']
     simp
    ·have ha':¬ l.a=(n:Nat):=by omega
     rw [List.getElem?_set_ne ha,if_neg ha']
     simp
  rw [hstep]
  simp only [dg,List.foldr_cons]
  omega
section
variable {d:Dr} (hd:drP d)
include hd
omit hd in
theorem dSt_at (n:Nat):(dSt d)[n]?.getD false=decide (brN d≤n∧n < brN d+stN d):=by
 by_cases h:n < brN d+stN d
 ·simp [dSt,h]
 ·simp [dSt,h]
def lkV (d:Dr) (l:Lk):Prop:=(0≤l.a∧l.a < ((brN d+stN d:Nat):Int))∧(0≤l.b∧l.b < ((brN d+stN d:Nat):Int))∧l.a≠l.b∧(l.a < (brN d:Nat)∨l.b < (brN d:Nat))∧(1≤l.per∧l.per≤1000)∧0≤l.delay∧l.delay≤10000
theorem lkR_iff (L:List Lk) (l:Lk):lkR ⟨((brN d+stN d:Nat):Int),dSt d,L⟩ l=true↔lkV d l:=by
 simp only [lkR,lk1,lk2,lk4,nodeP,stA,dSt_at,Bool.and_eq_true,decide_eq_true_eq,Bool.not_eq_true',Bool.and_eq_false_iff,decide_eq_false_iff_not,lkV]
 constructor
 ·rintro ⟨⟨h1,h2,h3⟩,h4,h5⟩
  exact ⟨h1,h2,h3,by omega,h5⟩
 ·rintro ⟨h1,h2,h3,h4,h5⟩
  refine ⟨⟨h1,h2,h3⟩,?_,h5⟩
  omega
theorem mkK_V (n:Nat) (a b:Int):(1≤(mkK d n a b).per∧(mkK d n a b).per≤1000)∧0≤(mkK d n a b).delay∧(mkK d n a b).delay≤10000:=by
 have h1:=pkL_bd hd.pers n
 have h2:=pkL_bd hd.delays n
 simp only [mkK]
 omega
structure Snd (d:Dr) (L:List Lk):Prop where
 v:∀ l∈L,lkV d l
 j:L.Pairwise (fun m l=>joins l m=false)
 n:L.length≤24
theorem wD_or {L:List Lk} (h:Snd d L) (a b:Int):(wD d L a b=L∨wD d L a b=L++[mkK d L.length a b])∧Snd d (wD d L a b):=by
 unfold wD wth
 by_cases h1:L.length=24∨lkR ⟨((brN d+stN d:Nat):Int),dSt d,L⟩ (mkK d L.length a b)=false
 ·rw [if_pos h1]; exact ⟨.inl rfl,h⟩
 ·rw [if_neg h1]
  by_cases h2:jnL L a b=true
  ·rw [if_pos h2]; exact ⟨.inl rfl,h⟩
  ·rw [if_neg h2]
   have h3:lkV d (mkK d L.length a b):=by
    rw [← lkR_iff hd L]
    cases hq:lkR ⟨((brN d+stN d:Nat):Int),dSt d,L⟩ (mkK d L.length a b) with
    | true=>rfl
    | false=>exact absurd (.inr hq) h1
   have h4:L.length≠24:=fun e=>h1 (.inl e)
   have h5:=h.n
   refine ⟨.inr rfl,fun l hl=>?_,?_,by simp; omega⟩
   ·rcases List.mem_append.1 hl with hl|hl
    ·exact h.v l hl
    ·rw [List.mem_singleton] at hl; rw [hl]; exact h3
   ·rw [List.pairwise_append]
    refine ⟨h.j,List.pairwise_singleton _ _,fun m hm l hl=>?_⟩
    rw [List.mem_singleton] at hl
    rw [hl]
    refine decide_eq_false (fun hq=>h2 ?_)
    simp only [mkK] at hq
    simp only [jnL,List.any_eq_true,decide_eq_true_eq]
    exact ⟨m,hm,by omega⟩
theorem wD_new {L:List Lk} (h:L.length < 24) {a b:Int} (hv:(0≤a∧a < ((brN d+stN d:Nat):Int))∧(0≤b∧b < ((brN d+stN d:Nat):Int))∧a≠b∧(a < (brN d:Nat)∨b < (brN d:Nat))) (hj:∀ l∈L,¬ (l.a=a∧l.b=b∨l.a=b∧l.b=a)):wD d L a b=L++[mkK d L.length a b]:=by
 unfold wD wth
 have h1:lkR ⟨((brN d+stN d:Nat):Int),dSt d,L⟩ (mkK d L.length a b)=true:=by
  rw [lkR_iff hd]
  exact ⟨hv.1,hv.2.1,hv.2.2.1,hv.2.2.2,mkK_V hd _ _ _⟩
 have h2:¬ jnL L a b=true:=by
  intro hq
  simp only [jnL,List.any_eq_true,decide_eq_true_eq] at hq
  obtain ⟨l,hl,hq⟩:=hq
  exact hj l hl hq
 rw [if_neg (by rintro (e|e); omega; rw [h1] at e; cases e),if_neg h2]
theorem dL1_ok:Snd d (dL1 d)∧(dL1 d).length=brN d - 1∧(∀ l∈dL1 d,l.a < (brN d:Nat)∧l.b < (brN d:Nat))∧∀ i,i < brN d - 1→∃ l∈dL1 d,l.a=(i:Nat)∧l.b=((i+1:Nat):Int):=by
 obtain ⟨b1,b2,b3⟩:=brN_bd hd
 obtain ⟨s1,s2,s3⟩:=stN_bd hd
 have key:∀ k,k≤brN d - 1→Snd d ((List.range k).foldl (fun L i=>wD d L (i:Nat) ((i+1:Nat):Int)) [])∧((List.range k).foldl (fun L i=>wD d L (i:Nat) ((i+1:Nat):Int)) []).length=k ∧
   (∀ l∈(List.range k).foldl (fun L i=>wD d L (i:Nat) ((i+1:Nat):Int)) [],l.b=l.a+1∧0≤l.a∧l.a < (k:Nat))∧∀ i,i < k→∃ l∈(List.range k).foldl (fun L i=>wD d L (i:Nat) ((i+1:Nat):Int)) [],l.a=(i:Nat)∧l.b=((i+1:Nat):Int):=by
  intro k
  induction k with
  | zero=>intro _; exact ⟨⟨(fun l hl=>(by cases hl)),List.Pairwise.nil,Nat.zero_le _⟩,rfl,(fun l hl=>(by cases hl)),fun i hi=>by omega⟩
  | succ k ih =>
   intro hk
   obtain ⟨i1,i2,i3,i4⟩:=ih (by omega)
   rw [List.range_succ,List.foldl_append,List.foldl_cons,List.foldl_nil]
   generalize (List.range k).foldl (fun L i=>wD d L (i:Nat) ((i+1:Nat):Int)) []=L at *
   have hnew:=wD_new hd (L:=L) (by omega) (a:=(k:Nat)) (b:=((k+1:Nat):Int)) ⟨by omega,by omega,by omega,by omega⟩ (fun l hl=>by have:=i3 l hl; omega)
   have hs:=(wD_or hd i1 (k:Nat) ((k+1:Nat):Int)).2
   rw [hnew] at hs ⊢
   refine ⟨hs,by simp [i2],fun l hl=>?_,fun i hi=>?_⟩
   ·rcases List.mem_append.1 hl with hl|hl
    ·have:=i3 l hl; omega
    ·rw [List.mem_singleton] at hl; rw [hl]; simp only [mkK]; omega
   ·by_cases hik:i=k
    ·subst hik; exact ⟨_,List.mem_append_right _ (List.mem_singleton.2 rfl),rfl,rfl⟩
    ·obtain ⟨l,h1,h2⟩:=i4 i (by omega)
     exact ⟨l,List.mem_append_left _ h1,h2⟩
 obtain ⟨k1,k2,k3,k4⟩:=key (brN d - 1) (Nat.le_refl _)
 exact ⟨k1,k2,fun l hl=>by have:=k3 l hl; omega,k4⟩
structure Lnk2 (d:Dr) (L:List Lk):Prop where
 s:Snd d L
 chain:∀ i,i < brN d - 1→∃ l∈L,l.a=(i:Nat)∧l.b=((i+1:Nat):Int)
 home:∀ s,s < stN d→∃ l∈L,l.a=((brN d+s:Nat):Int)∧(0≤l.b∧l.b < (brN d:Nat))
theorem dL2_ok:Lnk2 d (dL2 d)∧∀ s,s < stN d→dg ((brN d+s:Nat):Int) (dL2 d)=1:=by
 obtain ⟨b1,b2,b3⟩:=brN_bd hd
 obtain ⟨s1,s2,s3⟩:=stN_bd hd
 obtain ⟨c1,c2,c3,c4⟩:=dL1_ok hd
 have key:∀ k,k≤stN d→Snd d ((List.range k).foldl (fun L s=>wD d L ((brN d+s:Nat):Int) (pkL d.homes (2*s) % (brN d:Nat))) (dL1 d))∧((List.range k).foldl (fun L s=>wD d L ((brN d+s:Nat):Int) (pkL d.homes (2*s) % (brN d:Nat))) (dL1 d)).length=brN d - 1+k ∧
   (∀ l∈(List.range k).foldl (fun L s=>wD d L ((brN d+s:Nat):Int) (pkL d.homes (2*s) % (brN d:Nat))) (dL1 d),l.a < ((brN d+k:Nat):Int)∧l.b < (brN d:Nat)) ∧
   (∀ i,i < brN d - 1→∃ l∈(List.range k).foldl (fun L s=>wD d L ((brN d+s:Nat):Int) (pkL d.homes (2*s) % (brN d:Nat))) (dL1 d),l.a=(i:Nat)∧l.b=((i+1:Nat):Int)) ∧
   (∀ s,s < k→∃ l∈(List.range k).foldl (fun L s=>wD d L ((brN d+s:Nat):Int) (pkL d.homes (2*s) % (brN d:Nat))) (dL1 d),l.a=((brN d+s:Nat):Int)∧(0≤l.b∧l.b < (brN d:Nat))) ∧
   ∀ s,s < k→dg ((brN d+s:Nat):Int) ((List.range k).foldl (fun L s=>wD d L ((brN d+s:Nat):Int) (pkL d.homes (2*s) % (brN d:Nat))) (dL1 d))=1:=by
  intro k
  induction k with
  | zero=>intro _; exact ⟨c1,c2,fun l hl=>by have:=c3 l hl; omega,c4,fun s hs=>by omega,fun s hs=>by omega⟩
  | succ k ih =>
   intro hk
   obtain ⟨i1,i2,i3,i4,i5,i6⟩:=ih (by omega)
   rw [List.range_succ,List.foldl_append,List.foldl_cons,List.foldl_nil]
   generalize (List.range k).foldl (fun L s=>wD d L ((brN d+s:Nat):Int) (pkL d.homes (2*s) % (brN d:Nat))) (dL1 d)=L at *
   have hm0:=Int.emod_nonneg (pkL d.homes (2*k)) (b:=((brN d:Nat):Int)) (by omega)
   have hm1:=Int.emod_lt_of_pos (pkL d.homes (2*k)) (b:=((brN d:Nat):Int)) (by omega)
   generalize pkL d.homes (2*k) % ((brN d:Nat):Int)=V at *
   have hnew:=wD_new hd (L:=L) (by omega) (a:=((brN d+k:Nat):Int)) (b:=V) ⟨by omega,by omega,by omega,by omega⟩ (fun l hl=>by have:=i3 l hl; omega)
   have hs:=(wD_or hd i1 ((brN d+k:Nat):Int) V).2
   rw [hnew] at hs ⊢
   refine ⟨hs,by simp [i2]; omega,fun l hl=>?_,fun i hi=>?_,fun s hs=>?_,fun s hs=>?_⟩
   ·rcases List.mem_append.1 hl with hl|hl
    ·have:=i3 l hl; omega
    ·rw [List.mem_singleton] at hl; rw [hl]; simp only [mkK]; omega
   ·obtain ⟨l,h1,h2⟩:=i4 i hi
    exact ⟨l,List.mem_append_left _ h1,h2⟩
   ·by_cases hsk:s=k
    ·subst hsk; exact ⟨_,List.mem_append_right _ (List.mem_singleton.2 rfl),rfl,hm0,hm1⟩
    ·obtain ⟨l,h1,h2⟩:=i5 s (by omega)
     exact ⟨l,List.mem_append_left _ h1,h2⟩
   ·rw [dg_mk]
    by_cases hsk:s=k
    ·subst hsk
     rw [dg_zero (fun l hl=>by have:=i3 l hl; omega),if_pos rfl,if_neg (by omega)]; rfl
    ·rw [i6 s (by omega),if_neg (by omega),if_neg (by omega)]; rfl
 obtain ⟨k1,k2,k3,k4,k5,k6⟩:=key (stN d) (Nat.le_refl _)
 exact ⟨⟨k1,k4,k5⟩,k6⟩
theorem lnk2_step {L:List Lk} (h:Lnk2 d L) (a b:Int):Lnk2 d (wD d L a b)∧∀ n,dg n L≤dg n (wD d L a b)∧dg n (wD d L a b)≤dg n L+(if a=n then 1 else 0)+(if b=n then 1 else 0):=by
 obtain ⟨h1,h2⟩:=wD_or hd h.s a b
 rcases h1 with e|e
 ·rw [e]
  refine ⟨h,fun n=>⟨Int.le_refl _,?_⟩⟩
  split <;> split <;> omega
 ·rw [e] at h2 ⊢
  refine ⟨⟨h2,fun i hi=>?_,fun s hs=>?_⟩,fun n=>?_⟩
  ·obtain ⟨l,h1,h3⟩:=h.chain i hi
   exact ⟨l,List.mem_append_left _ h1,h3⟩
  ·obtain ⟨l,h1,h3⟩:=h.home s hs
   exact ⟨l,List.mem_append_left _ h1,h3⟩
  ·rw [dg_mk]
   constructor
   ·split <;> split <;> omega
   ·omega
theorem dL5_ok:Lnk2 d (dL5 d)∧∀ s,s < stN d→1≤dg ((brN d+s:Nat):Int) (dL5 d)∧dg ((brN d+s:Nat):Int) (dL5 d)≤2:=by
 obtain ⟨b1,b2,b3⟩:=brN_bd hd
 obtain ⟨s1,s2,s3⟩:=stN_bd hd
 obtain ⟨c1,c2⟩:=dL2_ok hd
 have h3:Lnk2 d (dL3 d)∧∀ s,s < stN d→dg ((brN d+s:Nat):Int) (dL3 d)=1:=by
  unfold dL3
  split
  ·obtain ⟨i1,i2⟩:=lnk2_step hd c1 ((brN d - 1:Nat):Int) 0
   refine ⟨i1,fun s hs=>?_⟩
   have h4:=i2 ((brN d+s:Nat):Int)
   rw [c2 s hs,if_neg (by omega),if_neg (by omega)] at h4
   omega
  ·exact ⟨c1,c2⟩
 have h4:∀ k,k≤stN d→Lnk2 d ((List.range k).foldl (fun L s=>if 0 < pkL d.homes (2*s+1) % 3 then wD d L ((brN d+s:Nat):Int) (pkL d.homes (2*s+1) % (brN d:Nat)) else L) (dL3 d))∧∀ s,s < stN d→1≤dg ((brN d+s:Nat):Int) ((List.range k).foldl (fun L s=>if 0 < pkL d.homes (2*s+1) % 3 then wD d L ((brN d+s:Nat):Int) (pkL d.homes (2*s+1) % (brN d:Nat)) else L) (dL3 d))∧dg ((brN d+s:Nat):Int) ((List.range k).foldl (fun L s=>if 0 < pkL d.homes (2*s+1) % 3 then wD d L ((brN d+s:Nat):Int) (pkL d.homes (2*s+1) % (brN d:Nat)) else L) (dL3 d))≤(if s < k then 2 else 1):=by
  intro k
  induction k with
  | zero=>intro _; exact ⟨h3.1,fun s hs=>by have:=h3.2 s hs; rw [if_neg (by omega)]; simp only [List.range_zero,List.foldl_nil]; omega⟩
  | succ k ih =>
   intro hk
   obtain ⟨i1,i2⟩:=ih (by omega)
   rw [List.range_succ,List.foldl_append,List.foldl_cons,List.foldl_nil]
   generalize (List.range k).foldl (fun L s=>if 0 < pkL d.homes (2*s+1) % 3 then wD d L ((brN d+s:Nat):Int) (pkL d.homes (2*s+1) % (brN d:Nat)) else L) (dL3 d)=L at *
   have hm1:=Int.emod_lt_of_pos (pkL d.homes (2*k+1)) (b:=((brN d:Nat):Int)) (by omega)
   generalize pkL d.homes (2*k+1) % ((brN d:Nat):Int)=V at *
   by_cases hq:0 < pkL d.homes (2*k+1) % 3
   ·rw [if_pos hq]
    obtain ⟨j1,j2⟩:=lnk2_step hd i1 ((brN d+k:Nat):Int) V
    refine ⟨j1,fun s hs=>?_⟩
    have h5:=j2 ((brN d+s:Nat):Int)
    have h6:=i2 s hs
    rw [if_neg (show ¬ V=((brN d+s:Nat):Int) by omega)] at h5
    by_cases hsk:s=k
    ·subst hsk
     rw [if_pos rfl] at h5
     rw [if_neg (by omega)] at h6
     rw [if_pos (by omega)]
     omega
    ·rw [if_neg (by omega)] at h5
     by_cases hlt:s < k
     ·rw [if_pos hlt] at h6; rw [if_pos (by omega)]; omega
     ·rw [if_neg hlt] at h6; rw [if_neg (by omega)]; omega
   ·rw [if_neg hq]
    refine ⟨i1,fun s hs=>?_⟩
    have h6:=i2 s hs
    by_cases hlt:s < k
    ·rw [if_pos hlt] at h6; rw [if_pos (by omega)]; omega
    ·rw [if_neg hlt] at h6
     split <;> omega
 have h5:∀ (l:List Nat),Lnk2 d (l.foldl (fun L i=>wD d L (pkL d.chords (2*i) % (brN d:Nat)) (pkL d.chords (2*i+1) % (brN d:Nat))) (dL4 d))∧∀ s,s < stN d→dg ((brN d+s:Nat):Int) (l.foldl (fun L i=>wD d L (pkL d.chords (2*i) % (brN d:Nat)) (pkL d.chords (2*i+1) % (brN d:Nat))) (dL4 d))=dg ((brN d+s:Nat):Int) (dL4 d):=by
  have h40:Lnk2 d (dL4 d):=(h4 (stN d) (Nat.le_refl _)).1
  intro l
  suffices hg:∀ (l:List Nat) (L:List Lk),Lnk2 d L→Lnk2 d (l.foldl (fun L i=>wD d L (pkL d.chords (2*i) % (brN d:Nat)) (pkL d.chords (2*i+1) % (brN d:Nat))) L)∧∀ s,s < stN d→dg ((brN d+s:Nat):Int) (l.foldl (fun L i=>wD d L (pkL d.chords (2*i) % (brN d:Nat)) (pkL d.chords (2*i+1) % (brN d:Nat))) L)=dg ((brN d+s:Nat):Int) L from hg l _ h40
  intro l
  induction l with
  | nil=>intro L h; exact ⟨h,fun _ _=>rfl⟩
  | cons i l ih =>
   intro L h
   rw [List.foldl_cons]
   have hm1:=Int.emod_lt_of_pos (pkL d.chords (2*i)) (b:=((brN d:Nat):Int)) (by omega)
   have hm2:=Int.emod_lt_of_pos (pkL d.chords (2*i+1)) (b:=((brN d:Nat):Int)) (by omega)
   obtain ⟨j1,j2⟩:=lnk2_step hd h (pkL d.chords (2*i) % (brN d:Nat)) (pkL d.chords (2*i+1) % (brN d:Nat))
   obtain ⟨q1,q2⟩:=ih _ j1
   refine ⟨q1,fun s hs=>?_⟩
   rw [q2 s hs]
   have h6:=j2 ((brN d+s:Nat):Int)
   rw [if_neg (by omega),if_neg (by omega)] at h6
   omega
 obtain ⟨q1,q2⟩:=h5 (List.range (min 6 (d.chords.length / 2)))
 refine ⟨q1,fun s hs=>?_⟩
 have e1:dg ((brN d+s:Nat):Int) (dL5 d)=dg ((brN d+s:Nat):Int) (dL4 d):=q2 s hs
 have e2:=(h4 (stN d) (Nat.le_refl _)).2 s hs
 rw [if_pos hs] at e2
 rw [e1]
 exact e2
theorem dTopo_ok:okT (dTopo d)=true:=by
 obtain ⟨b1,b2,b3⟩:=brN_bd hd
 obtain ⟨s1,s2,s3⟩:=stN_bd hd
 obtain ⟨h1,h2⟩:=dL5_ok hd
 have hsz:sizeP (dTopo d):=by
  refine ⟨?_,?_,h1.s.n⟩
  ·show 2≤((brN d+stN d:Nat):Int)∧((brN d+stN d:Nat):Int)≤12
   omega
  ·show ((dSt d).length:Int)=((brN d+stN d:Nat):Int)
   rw [dSt_len]
 have hsound:soundL (dTopo d)=true:=by
  rw [soundL,List.all_eq_true]
  intro i hi
  have hi:i < (dL5 d).length:=List.mem_range.1 hi
  have hl:lnk (dTopo d) i=(dL5 d)[i]:=by simp [lnk,dTopo,hi]
  have hv:=h1.s.v _ (List.getElem_mem hi)
  rw [hl]
  have hr:=(lkR_iff hd (dL5 d) (dL5 d)[i]).2 hv
  simp only [lkR,Bool.and_eq_true] at hr
  simp only [lkOk,Bool.and_eq_true]
  refine ⟨hr.1,hr.2.1,?_,hr.2.2⟩
  rw [lk3,List.all_eq_true]
  intro m hm
  obtain ⟨j,hj,rfl⟩:=List.mem_iff_getElem.1 hm
  simp only [dTopo,List.length_take] at hj
  have hp:=List.pairwise_iff_getElem.1 h1.s.j j i (by omega) hi (by omega)
  have e:((dTopo d).links.take i)[j]=(dL5 d)[j]:=by simp [dTopo]
  rw [e,hp]; rfl
 have hends:∀ l∈(dTopo d).links,endsP (dTopo d) l:=fun l hl=>by
  have:=h1.s.v l hl
  exact ⟨this.1,this.2.1,this.2.2.1⟩
 have hdeg:degOk (dTopo d)=true:=by
  rw [degOk,List.all_eq_true]
  intro n hn
  have hn:n < brN d+stN d:=by rw [← dSt_len]; exact List.mem_range.1 hn
  have hst:stA (dTopo d) n=decide (brN d≤n∧n < brN d+stN d):=dSt_at n
  rw [hst]
  by_cases hq:brN d≤n
  ·have hdd:iA (degs (dTopo d)) (n:Nat)=dg (n:Nat) (dL5 d):=by
    have h3:=degs_dg (N:=brN d+stN d) (dL5 d) (List.replicate (brN d+stN d) 0) (fun l hl=>by have:=h1.s.v l hl; unfold lkV at this; omega) (by simp) n hn
    have h4:iA (List.replicate (brN d+stN d) (0:Int)) (n:Nat)=0:=by
     simp only [iA,Int.toNat_natCast,List.getElem?_replicate]
     split <;> rfl
    rw [h4,Int.zero_add] at h3
    exact h3
   have h5:=h2 (n - brN d) (by omega)
   have e:((brN d+(n - brN d):Nat):Int)=(n:Nat):=by omega
   rw [e] at h5
   rw [hdd,decide_eq_true h5]; simp
  ·have:decide (brN d≤n∧n < brN d+stN d)=false:=decide_eq_false (fun h=>hq h.1)
   rw [this]; rfl
 have hmem:∀ l∈dL5 d,(⟨l.a.toNat,l.b.toNat,0⟩:Ed)∈kEs (fun _=>false) 0 (dTopo d).links:=fun l hl=>by
  rw [kEs_mem]
  obtain ⟨j,hj⟩:=List.mem_iff_getElem?.1 hl
  exact ⟨j,l,hj,rfl,.inl rfl⟩
 have hbr:∀ n,n < brN d→Cn (kEs (fun _=>false) 0 (dTopo d).links) n 0:=by
  intro n
  induction n with
  | zero=>intro _; exact .refl 0
  | succ n ih =>
   intro hn
   obtain ⟨l,hl,e1,e2⟩:=h1.chain n (by omega)
   have h3:=hmem l hl
   rw [e1,e2,Int.toNat_natCast,Int.toNat_natCast] at h3
   have h4:=kEs_sym _ _ _ h3
   exact .step (e:=⟨n+1,n,0⟩) h4 (ih (by omega))
 have hall:∀ n,n < brN d+stN d→Cn (kEs (fun _=>false) 0 (dTopo d).links) n 0:=by
  intro n hn
  by_cases hq:n < brN d
  ·exact hbr n hq
  ·obtain ⟨l,hl,e1,e2⟩:=h1.home (n - brN d) (by omega)
   have h3:=hmem l hl
   rw [e1,Int.toNat_natCast,show brN d+(n - brN d)=n by omega] at h3
   have h5:=hbr l.b.toNat (by omega)
   exact .step (e:=⟨n,l.b.toNat,0⟩) h3 h5
 have hreach:¬ false∈reachL (dTopo d) 0 (fun _=>false):=by
  intro hf
  obtain ⟨n,hn⟩:=List.mem_iff_getElem?.1 hf
  have hlen:n < (reachL (dTopo d) 0 (fun _=>false)).length:=(List.getElem?_eq_some_iff.1 hn).1
  rw [reachL_len] at hlen
  have hN:(dTopo d).nodes.toNat=brN d+stN d:=by show ((brN d+stN d:Nat):Int).toNat=_; omega
  have:=(reach_spec hends (show 0 < (dTopo d).nodes.toNat by omega) hlen).2 (hall n (by omega))
  rw [hn] at this
  cases this
 simp only [okT,Bool.and_eq_true,Bool.not_eq_true',decide_eq_false_iff_not]
 exact ⟨decide_eq_true hsz,hsound,hdeg,hreach⟩
end
end Go.Proofs.Ytbibdnlbpjnieaa
namespace Go.Proofs.Ytbibdnlbpjnieaa
open Go Go.Abs
def prW (l:List Int) (n:Nat):Int:=if n < l.length then pkL l n % 16 else 0
def prWs (N:Nat) (l:List Int):List Int:=(List.range N).map (prW l)
theorem prWs_ok {t:Tpo} {l:List Int} (h:okT t=true) (hl:u8P l):rankL t (prWs t.nodes.toNat l)=true:=by
 obtain ⟨z1,z2,z3⟩:=okT_size h
 simp only [rankL,prWs,Bool.and_eq_true,List.all_eq_true,decide_eq_true_eq,List.length_map,List.length_range]
 refine ⟨by omega,fun p hp=>?_⟩
 obtain ⟨n,hn,rfl⟩:=List.mem_map.1 hp
 have:=pkL_bd hl n
 unfold prW
 split <;> omega
structure Gh where
 n:Int
 p:Int
 h:Hd
theorem made_l0 (d:Dr) (hd:drP d) (c:Bool) (prios:List Int) (hp:u8P prios) (x2 x3:T) (dd nn:Nat) (hn:100 < nn) (R:Xit→FEnv→Heap→Prop) (e:FEnv)
  (he:e 1=.t (.sl c 1 (prios.map U8))∧e 2=.t x2∧e 3=.t x3∧e 8=.ref 0 1 0 0∧e 10=.ref 1 1 0 0∧e 11=.ms 2 0 0 0 1 false∧e 28=.t (I ((brN d+stN d:Nat):Int))∧e 29=.t (I 0))
  (hR:∀ e,e 2=.t x2∧e 3=.t x3∧e 8=.ref 0 1 0 0∧e 10=.ref 1 1 0 0∧e 11=.ms 2 (brN d+stN d) 0 (brN d+stN d) 1 false→R (.exit 0) e [.row 6 [.t zN6] 0,.row 3 [.t (tpT false false (dTopo d))] 1,rowG 1 I (prWs (brN d+stN d) prios)]) :
  wpIter 3 (some [1,2,3,8,10,11,28,29]) (wc Try.prog pol (ans Try.prog pol) (inl Try.prog pol (ans Try.prog pol) nn dd) nn 8 il8l0) R nn e [.row 6 [.t zN6] 0,.row 3 [.t (tpT false false (dTopo d))] 1,rowG 1 I []]:=by
 obtain ⟨b1,b2,b3⟩:=brN_bd hd
 obtain ⟨s1,s2,s3⟩:=stN_bd hd
 refine loop_upto (brN d+stN d) (step:=fun i (o:List Int)=>.go (o++[prW prios i])) (fin:=id)
  (St:=fun i o e h=>(e 1=.t (.sl c 1 (prios.map U8))∧e 2=.t x2∧e 3=.t x3∧e 8=.ref 0 1 0 0∧e 10=.ref 1 1 0 0∧e 11=.ms 2 o.length 0 o.length 1 false∧e 28=.t (I ((brN d+stN d:Nat):Int))∧e 29=.t (I (i:Nat)))∧o.length=i∧h=[.row 6 [.t zN6] 0,.row 3 [.t (tpT false false (dTopo d))] 1,rowG 1 I o])
  (Ex:=fun o x e h=>(e 2=.t x2∧e 3=.t x3∧e 8=.ref 0 1 0 0∧e 10=.ref 1 1 0 0∧e 11=.ms 2 o.length 0 o.length 1 false)∧x=.exit 0∧h=[.row 6 [.t zN6] 0,.row 3 [.t (tpT false false (dTopo d))] 1,rowG 1 I o]) (s:=[]) (by omega) ?_ ?_ (by omega) ⟨he,rfl,rfl⟩ ?_
 ·intro i o e h Y R hi hlt hw ⟨hs,hl,hh⟩ hk
  subst hh
  simp only [ctlK_go] at hk
  have hroom:(o.length+1)*8≤roomB:=ap_room (by omega) (by omega)
  by_cases hq:i < prios.length
  ·have d1:decide ((i:Int) < (prios.length:Nat))=true:=decide_eq_true (by omega)
   have hb:=pkL_bd hp i
   have hg:(prios.map U8)[i]? = some (U8 (pkL prios i)):=by simp [pkL,hq]
   have v1:IntKind.i64.wrap (pkL prios i)=pkL prios i:=wrap_i64 (by omega) (by omega)
   have t1:(pkL prios i).tmod 16=pkL prios i % 16:=Int.tmod_eq_emod_of_nonneg hb.1
   have v2:IntKind.i64.wrap (pkL prios i % 16)=pkL prios i % 16:=wrap_i64 (by omega) (by omega)
   have hpw:prW prios i=pkL prios i % 16:=by rw [prW,if_pos hq]
   rw [hpw] at hk
   generalize pkL prios i=V at *
   (repeat' first|simp only [il8l0_go,il8l0b,go_sem,hs,hlt,hw,d1,hg,v1,v2,t1,hq,hroom,rowG_is,rowG_es,rowG_mr,frz_rowG']|(with_reducible first|apply wD|apply wT|(apply wM; intro)|(apply wL; intro))|((with_reducible first|refine wA ?_ ?_|refine wE ?_); rfl))
   all_goals refine hk _ _ ⟨?_,by simp [hl],?_⟩
   ·simp only [go_sem,hs,hw,List.length_append]
   ·simp [rowG]
  ·have d1:decide ((i:Int) < (prios.length:Nat))=false:=decide_eq_false (by omega)
   have hpw:prW prios i=0:=by rw [prW,if_neg hq]
   rw [hpw] at hk
   (repeat' first|simp only [il8l0_go,il8l0b,go_sem,hs,hlt,hw,d1,hroom,rowG_is,rowG_es,rowG_mr,frz_rowG']|(with_reducible first|apply wD|apply wT|(apply wM; intro)|(apply wL; intro))|((with_reducible first|refine wA ?_ ?_|refine wE ?_); rfl))
   all_goals refine hk _ _ ⟨?_,by simp [hl],?_⟩
   ·simp only [go_sem,hs,hw,List.length_append]
   ·simp [rowG]
 ·intro o e h Y R hlt ⟨hs,hl,hh⟩ hk
  subst hh
  (repeat' first|simp only [il8l0_go,il8l0b,go_sem,hs,hlt]|(with_reducible first|apply wD|apply wT|(apply wM; intro)|(apply wL; intro))|((with_reducible first|refine wA ?_ ?_|refine wE ?_); rfl))
  all_goals (refine hk _ _ _ ⟨?_,rfl,rfl⟩; simp only [go_sem,hs,id])
 ·intro x e h ⟨h1,h2,h3⟩
  have hf:∀ (k i:Nat) (o:List Int),foldC (ρ:=List Int) (fun i (_:Unit) o=>Ctl.go (o++[prW prios i])) id i (List.replicate k ()) o=o++(List.range' i k).map (prW prios):=by
   intro k
   induction k with
   | zero=>intro i o; simp [foldC]
   | succ k ih=>intro i o; rw [List.replicate_succ,foldC_go (s':=o++[prW prios i]) rfl,ih,List.range'_succ]; simp
  rw [hf,List.nil_append,← List.range_eq_range'] at h3 h1
  subst h2 h3
  have hl:((List.range (brN d+stN d)).map (prW prios)).length=brN d+stN d:=by simp
  rw [hl] at h1
  exact hR _ h1
end Go.Proofs.Ytbibdnlbpjnieaa
namespace Go.Proofs.Ytbibdnlbpjnieaa
open Go Go.Abs
def ghX (x:Bx) (i:Nat) (h:Hd):Bx:=⟨false,x.c1,x.c2,false,putB x.b (x.b.heard.set i (heardAs h))⟩
def ghI (w:Nw) (g:Gh):Nat:=(g.n % w.t.nodes).toNat
def ghN (w:Nw) (g:Gh):Nw:=⟨w.t,w.prios,w.down,w.bs.set (ghI w g) (ghX (bxA w (ghI w g)) (g.p % ((bxA w (ghI w g)).b.heard.length:Nat)).toNat g.h)⟩
def ghW (s:Fl × Nw) (g:Gh):Fl × Nw:=if (bxA s.2 (ghI s.2 g)).b.heard.length=0 then s else if okN (ghN s.2 g)=true then (⟨s.1.st,s.1.lk,s.1.pr,s.1.dn,false⟩,ghN s.2 g) else s
theorem ghN_z {w:Nw} (h:VN w) (g:Gh) (hl:(bxA w (ghI w g)).b.heard.length≠0):zOk (ghN w g):=by
 intro n hn hz
 have hn':n < w.bs.length:=by simpa [ghN] using hn
 by_cases hq:n=ghI w g
 ·exfalso
  have e:bxA (ghN w g) n=ghX (bxA w (ghI w g)) (g.p % ((bxA w (ghI w g)).b.heard.length:Nat)).toNat g.h:=by
   subst hq
   simp only [bxA,ghN]
   rw [List.getElem?_set_self hn']; rfl
  rw [e] at hz
  cases hz
 ·have e:bxA (ghN w g) n=bxA w n:=by
   simp only [bxA,ghN]
   rw [List.getElem?_set_ne (fun h=>hq h.symm)]
  rw [e] at hz ⊢
  exact h.z n hn' hz
theorem ghW_ok {s:Fl × Nw} (h:VN s.2) (g:Gh):VN (ghW s g).2∧(ghW s g).2.t=s.2.t∧(ghW s g).2.prios=s.2.prios∧(ghW s g).2.down=s.2.down:=by
 unfold ghW
 split
 ·exact ⟨h,rfl,rfl,rfl⟩
 ·rename_i hl
  split
  ·rename_i hok
   exact ⟨VN.of hok (ghN_z h g hl),rfl,rfl,rfl⟩
  ·exact ⟨h,rfl,rfl,rfl⟩
theorem foldC_lst {σ α:Type} {f:σ→α→σ}:∀ (l:List α) (i:Nat) (s:σ),foldC (ρ:=σ) (fun _ x s=>Ctl.go (f s x)) id i l s=l.foldl f s:=by
 intro l
 induction l with
 | nil=>intro i s; rfl
 | cons x l ih=>intro i s; rw [foldC_go (s':=f s x) rfl,ih,List.foldl_cons]
end Go.Proofs.Ytbibdnlbpjnieaa
namespace Go.Proofs.Ytbibdnlbpjnieaa
open Go Go.Abs
def ctW (s:Fl × Nw) (c:Int):Fl × Nw:=(⟨false,false,false,false,true⟩,⟨s.2.t,s.2.prios,s.2.down.set (c % (s.2.t.links.length:Nat)).toNat true,cutL s.2 (c % (s.2.t.links.length:Nat)).toNat⟩)
theorem ctW_ok {s:Fl × Nw} (h:VN s.2) (c:Int):VN (ctW s c).2∧(ctW s c).2.t=s.2.t∧(ctW s c).2.prios=s.2.prios:=⟨h.cut _,rfl,rfl⟩
theorem made_l2 (d:Dr) (hd:drP d) (c:Bool) (cuts:List Int) (hc:u8P cuts) (s0:Fl × Nw) (hv0:VN s0.2) (ht0:s0.2.t=dTopo d) (J:Inl) (nn:Nat) (hn:1000 < nn) (R:Xit→FEnv→Heap→Prop) (e:FEnv) (hgl:cuts.length≤3)
  (he:e 8=.ref 0 1 0 0∧e 10=.ref 1 1 0 0∧e 14=.ref 3 1 0 0∧e 15=.t (I 0)∧e 128=.t (.sl c 1 (cuts.map U8))∧e 129=.t (I (cuts.length:Nat))∧e 130=.t (I 0))
  (hR:∀ e (s:Fl × Nw),s=cuts.foldl ctW s0→(VN s.2∧s.2.t=dTopo d∧s.2.prios=s0.2.prios∧(cuts=[]→s=s0))→(e 8=.ref 0 1 0 0∧e 14=.ref 3 1 0 0∧e 15=.t (I 0))→R (.exit 4) e [.row 6 [.t zN6] 0,.row 3 [.t (tpT false false (dTopo d))] 1,AObj.gone,.row 6 [.t (nwT s.1 s.2)] 1]) :
  wpIter 4 (some [8,10,14,15,128,129,130]) (wc Try.prog pol (ans Try.prog pol) J nn 8 il8l2) R nn e [.row 6 [.t zN6] 0,.row 3 [.t (tpT false false (dTopo d))] 1,AObj.gone,.row 6 [.t (nwT s0.1 s0.2)] 1]:=by
 refine loop_range cuts U8 (step:=fun i x (s:Fl × Nw)=>.go (ctW s x)) (fin:=id)
  (St:=fun i s e h=>(e 8=.ref 0 1 0 0∧e 10=.ref 1 1 0 0∧e 14=.ref 3 1 0 0∧e 15=.t (I 0)∧e 128=.t (.sl c 1 (cuts.map U8))∧e 129=.t (I (cuts.length:Nat))∧e 130=.t (I (i:Nat)))∧(VN s.2∧s.2.t=dTopo d∧s.2.prios=s0.2.prios∧(cuts=[]→s=s0))∧h=[.row 6 [.t zN6] 0,.row 3 [.t (tpT false false (dTopo d))] 1,AObj.gone,.row 6 [.t (nwT s.1 s.2)] 1])
  (Ex:=fun s x e h=>(e 8=.ref 0 1 0 0∧e 14=.ref 3 1 0 0∧e 15=.t (I 0))∧x=.exit 4∧(VN s.2∧s.2.t=dTopo d∧s.2.prios=s0.2.prios∧(cuts=[]→s=s0))∧h=[.row 6 [.t zN6] 0,.row 3 [.t (tpT false false (dTopo d))] 1,AObj.gone,.row 6 [.t (nwT s.1 s.2)] 1]) (s:=s0) (by omega) ?_ ?_ (by omega) ⟨he,⟨hv0,ht0,rfl,fun _=>rfl⟩,rfl⟩ ?_
 ·intro i x s e h Y R' hm hi hx hget hlt hw ⟨hs,⟨hv,ht,hpr,hcn⟩,hh⟩ hk
  subst hh
  simp only [ctlK_go] at hk
  have hxb:=hc.1 x hm
  obtain ⟨c1,c2,c3⟩:=ctW_ok hv x
  obtain ⟨z1,z2,z3⟩:=okT_size hv.t
  obtain ⟨f,w⟩:=s
  dsimp only at hv ht hpr z1 z2 z3 c1 c2 c3
  have hI:VN (ctW (f,w) x).2∧(ctW (f,w) x).2.t=dTopo d∧(ctW (f,w) x).2.prios=s0.2.prios∧(cuts=[]→(ctW (f,w) x)=s0):=⟨c1,c2.trans ht,c3.trans hpr,fun h=>by rw [h] at hm; cases hm⟩
  have hL0:0 < w.t.links.length:=List.length_pos_iff.2 (links_ne hv.t)
  have hLd:(dTopo d).links.length=w.t.links.length:=by rw [ht]
  have m1:=Int.emod_nonneg x (b:=((w.t.links.length:Nat):Int)) (by omega)
  have m2:=Int.emod_lt_of_pos x (b:=((w.t.links.length:Nat):Int)) (by omega)
  obtain ⟨j,hj⟩:∃ j:Nat,(j:Int)=x % (w.t.links.length:Nat):=⟨(x % (w.t.links.length:Nat)).toNat,by omega⟩
  have u1:IntKind.i64.wrap x=x:=wrap_i64 (by omega) (by omega)
  have t1:x.tmod (w.t.links.length:Nat)=((j:Nat):Int):=by rw [Int.tmod_eq_emod_of_nonneg hxb.1,hj]
  have v1:IntKind.i64.wrap ((j:Nat):Int)=((j:Nat):Int):=wrap_i64 (by omega) (by omega)
  have hn0:¬ (((w.t.links.length:Nat):Int)=0):=by omega
  have k1:=Cut_ok f w hv.z hv.ok j (by omega) hv.b6
  have hct:ctW (f,w) x=(⟨false,false,false,false,true⟩,⟨w.t,w.prios,w.down.set j true,cutL w j⟩):=by simp only [ctW]; rw [← hj,Int.toNat_natCast]
  rw [hct] at hk hI
  dsimp only at hk hI
  have hfo:∀ hx:Heap,frzObj hx (fromB 4) (.row 3 [.t (tpT false false (dTopo d))] 1)=some (.row 3 [.t (tpT false false (dTopo d))] 1):=fun hx=>frz_rowA (by simp [avoidAll,avoid])
  generalize cutL w j=CB at *
  generalize w.down.set j true=DN at *
  (repeat' first|simp only [il8l2_go,il8l2b,go_sem,hs,hget,hlt,hw,u1,t1,v1,hn0,hLd,k1,frz_rowG']|(with_reducible first|apply wD|apply wT|(apply wM; intro)|(apply wL; intro))|((with_reducible first|refine wA ?_ ?_|refine wE ?_); rfl))
  all_goals (refine hk _ _ ⟨?_,hI,?_⟩ <;> simp only [go_sem,hs,hw])
 ·intro s e h Y R' hlt ⟨hs,hI,hh⟩ hk
  subst hh
  (repeat' first|simp only [il8l2_go,il8l2b,go_sem,hs,hlt]|(with_reducible first|apply wD|apply wT|(apply wM; intro)|(apply wL; intro))|((with_reducible first|refine wA ?_ ?_|refine wE ?_); rfl))
  all_goals (refine hk _ _ _ ⟨?_,rfl,hI,rfl⟩; simp only [go_sem,hs,id])
 ·intro x e h ⟨h1,h2,h3,h4⟩
  rw [foldC_lst] at h3 h4
  subst h2 h4
  exact hR _ _ rfl h3 h1
end Go.Proofs.Ytbibdnlbpjnieaa
namespace Go.Proofs.Ytbibdnlbpjnieaa
open Go Go.Abs
def mdN (d:Dr) (prios:List Int):Fl × Nw:=(⟨false,false,false,false,true⟩,⟨dTopo d,prWs (brN d+stN d) prios,List.replicate (dTopo d).links.length false,newL (newW (dTopo d) (prWs (brN d+stN d) prios))⟩)
def mdG (d:Dr) (prios:List Int) (ghs:List Gh):Fl × Nw:=(ghs.take 12).foldl ghW (mdN d prios)
def mdW (d:Dr) (prios cuts:List Int) (ghs:List Gh):Fl × Nw:=(cuts.take 3).foldl ctW (mdG d prios ghs)
theorem mdN_ok {d:Dr} (hd:drP d) {prios:List Int} (hp:u8P prios):VN (mdN d prios).2∧(mdN d prios).2.t=dTopo d:=by
 have hok:=dTopo_ok hd
 have hpr:=prWs_ok hok hp
 have hNn:(dTopo d).nodes.toNat=brN d+stN d:=by show ((brN d+stN d:Nat):Int).toNat=_; omega
 rw [hNn] at hpr
 exact ⟨VN.new hok hpr,rfl⟩
theorem mdG_ok {d:Dr} (hd:drP d) {prios:List Int} (hp:u8P prios) (ghs:List Gh):VN (mdG d prios ghs).2∧(mdG d prios ghs).2.t=dTopo d∧(mdG d prios ghs).2.down=(mdN d prios).2.down∧(mdG d prios ghs).2.prios=(mdN d prios).2.prios:=by
 unfold mdG
 obtain ⟨h1,h2⟩:=mdN_ok hd hp
 generalize mdN d prios=s at *
 suffices h:∀ (l:List Gh) (s:Fl × Nw),VN s.2→VN (l.foldl ghW s).2∧(l.foldl ghW s).2.t=s.2.t∧(l.foldl ghW s).2.down=s.2.down∧(l.foldl ghW s).2.prios=s.2.prios by
  obtain ⟨a,b,c,e⟩:=h (ghs.take 12) s h1
  exact ⟨a,b.trans h2,c,e⟩
 intro l
 induction l with
 | nil=>intro s h; exact ⟨h,rfl,rfl,rfl⟩
 | cons g l ih =>
  intro s h
  obtain ⟨a,b,c,e⟩:=ghW_ok h g
  obtain ⟨a',b',c',e'⟩:=ih (ghW s g) a
  exact ⟨a',b'.trans b,c'.trans e,e'.trans c⟩
theorem mdW_ok {d:Dr} (hd:drP d) {prios:List Int} (hp:u8P prios) (cuts:List Int) (ghs:List Gh):VN (mdW d prios cuts ghs).2∧(mdW d prios cuts ghs).2.t=dTopo d:=by
 unfold mdW
 obtain ⟨h1,h2,_,_⟩:=mdG_ok hd hp ghs
 generalize mdG d prios ghs=s at *
 suffices h:∀ (l:List Int) (s:Fl × Nw),VN s.2→VN (l.foldl ctW s).2∧(l.foldl ctW s).2.t=s.2.t by
  obtain ⟨a,b⟩:=h (cuts.take 3) s h1
  exact ⟨a,b.trans h2⟩
 intro l
 induction l with
 | nil=>intro s h; exact ⟨h,rfl⟩
 | cons c l ih =>
  intro s h
  obtain ⟨a,b,_⟩:=ctW_ok h c
  obtain ⟨a',b'⟩:=ih (ctW s c) a
  exact ⟨a',b'.trans b⟩
end Go.Proofs.Ytbibdnlbpjnieaa
namespace Go.Proofs.Ytbibdnlbpjnieaa
open Go Go.Abs
theorem made_ansG (c1 c2 c3 c4 cp cc:Bool) (d:Dr) (hd:drP d) (prios cuts:List Int) (hp:u8P prios) (hcu:u8P cuts) :
  ans Try.prog pol 8 [drT c1 c2 c3 c4 d,.sl cp 1 (prios.map U8),.sl cc 1 (cuts.map U8),.sc (.slice none 0 0)]=some (.tup [nwT (mdW d prios cuts []).1 (mdW d prios cuts []).2,B true]):=by
 obtain ⟨b1,b2,b3⟩:=brN_bd hd
 obtain ⟨s1,s2,s3⟩:=stN_bd hd
 have kT:=Topo_ans c1 c2 c3 c4 d hd
 have hok:=dTopo_ok hd
 have hpr:=prWs_ok hok hp
 have hNn:(dTopo d).nodes.toNat=brN d+stN d:=by show ((brN d+stN d:Nat):Int).toNat=_; omega
 rw [hNn] at hpr
 have kN:=New_ok false false false (dTopo d) (prWs (brN d+stN d) prios) hok hpr
 have hVN:=mdN_ok hd hp
 have hpl:(prWs (brN d+stN d) prios).length=brN d+stN d:=by simp [prWs]
 have kN':ans Try.prog pol 15 [tpT false false (dTopo d),.sl false 1 ((prWs (brN d+stN d) prios).map I)]=some (.tup [nwT (mdN d prios).1 (mdN d prios).2,I 0]):=kN
 generalize hs0:mdN d prios=s0 at *
 have hc3:u8P (cuts.take 3):=⟨fun g h=>hcu.1 g (List.mem_of_mem_take h),by have:=hcu.2; simp; omega⟩
 obtain ⟨nn,h2000⟩:∃ nn,2000 < nn+1:=⟨2001,by omega⟩
 have hn1:1000 < nn+1:=by omega
 refine ans_go (nn+1) 5 il8_eq (Nat.le_of_ble_eq_true rfl) ?_
 simp only [il8c]
 (repeat' first|simp only [List.cons_append,List.nil_append,go_sem,kT]|(with_reducible first|apply wD|apply wT|(apply wM; intro)|(apply wL; intro))|((with_reducible first|refine wA ?_ ?_|refine wE ?_); rfl))
 refine made_l0 d hd cp prios hp (.sl cc 1 (cuts.map U8)) (.sc (.slice none 0 0)) 5 (nn+1) (by omega) _ _ (by simp only [go_sem]; rfl) ?_
 intro e ⟨e2,e3,e8,e10,e11⟩
 have his:rowIs 1 (brN d+stN d) (some (rowG 1 I (prWs (brN d+stN d) prios))):=by have:=rowG_is (k:=1) (enc:=I) (l:=prWs (brN d+stN d) prios); rwa [hpl] at this
 have hmg:=mdG_ok hd hp []
 have hmw:=mdW_ok hd hp cuts []
 have hG:mdG d prios []=s0:=by rw [mdG,hs0]; rfl
 have hW:mdW d prios cuts []=(cuts.take 3).foldl ctW (mdG d prios []):=rfl
 have hnG:namesObj (some (rowG 1 I (prWs (brN d+stN d) prios)))=[]:=by rw [rowG_eq,nm_row,nm_map]
 have fzl:∀ (hx:Heap) (p:Nat→Bool),p 2=true→hx[2]? = some (rowG 1 I (prWs (brN d+stN d) prios))→frz hx p (.ms 2 (brN d+stN d) 0 (brN d+stN d) 1 false)=some (.t (.sl false 1 ((prWs (brN d+stN d) prios).map I))):=fun hx p hp' hg'=>frz_msr (l:=prWs (brN d+stN d) prios) hp' hg' (Nat.zero_le _) hpl.symm
 have hm3:(if 3 < ((cuts.length:Nat):Int) then (3:Int) else ((cuts.length:Nat):Int))=((min 3 cuts.length:Nat):Int):=by split <;> omega
 have htc:List.take (min 3 cuts.length) (cuts.map U8)=(cuts.take 3).map U8:=by rw [List.map_take,List.take_eq_take_min (i:=3) (l:=cuts.map U8),List.length_map]
 have hq2:min 3 cuts.length≤cuts.length:=Nat.min_le_right _ _
 have hl3:(cuts.take 3).length=min 3 cuts.length:=by simp
 generalize hCL:cuts.take 3=cl at *
 generalize hdc3:decide (min 3 cuts.length=cuts.length)=b3' at *
 have slN:iSlice 9 (.t (.sc (.slice none 0 0))) none (some (.t (.sc (.int .i64 0)))) none=some (.t (.sc (.slice none 0 0))):=by rfl
 (repeat' first|simp only [List.cons_append,List.nil_append,go_sem,e2,e3,e8,e10,e11,kN',his,fzl,hnG,rowG_is,rowG_es,rowG_mr,frz_rowG',slN,hm3,htc,hq2,hdc3]|(with_reducible first|apply wD|apply wT|(apply wM; intro)|(apply wL; intro))|((with_reducible first|refine wA ?_ ?_|refine wE ?_); rfl)|((with_reducible refine iter_unroll (body:=wc _ _ _ _ _ _ il8l1) ?_ ?_); exact Nat.le_of_ble_eq_true rfl; simp only [il8l1_go,il8l1b]))
 refine made_l2 d hd (cc && b3') cl hc3 s0 hVN.1 hVN.2 _ (nn+1) hn1 _ _ (by omega) (by simp only [go_sem]) ?_
 clear e2 e3 e8 e10 e11
 intro e s' hs' ⟨q1,q2,q3,q4⟩ ⟨e8,e14,e15⟩
 rw [← hG,← hW] at hs'
 rw [← hs']
 (repeat' first|simp only [List.cons_append,List.nil_append,go_sem,e8,e14,e15]|(with_reducible first|apply wD|apply wT|(apply wM; intro)|(apply wL; intro))|((with_reducible first|refine wA ?_ ?_|refine wE ?_); rfl))
end Go.Proofs.Ytbibdnlbpjnieaa
namespace Go.Proofs.Ytbibdnlbpjnieaa
open Go Go.Abs
abbrev fl1:Fl:=⟨false,false,false,false,true⟩
theorem RoundV (f:Fl) (w:Nw) (h:VN w):ans Try.prog pol 21 [nwT f w]=some (.tup [nwT fl1 (rndW w),I 0]):=Round_ok f w h.z h.ok h.b6
def t3:Tpo:=⟨5,[false,false,false,true,true],[⟨0,1,1,0⟩,⟨1,2,1,0⟩,⟨0,2,5,0⟩,⟨3,0,1,0⟩,⟨4,2,1,0⟩]⟩
theorem three_ans:ans Try.prog pol 16 []=some (tpT true true t3):=ans_of_run (n:=10) 3 (by kernel_rfl)
def pr0:List Int:=[0,0,0,0,0]
def n0:Nw:=⟨t3,pr0,List.replicate t3.links.length false,newL (newW t3 pr0)⟩
def n3:Nw:=⟨(rndW (rndW n0)).t,(rndW (rndW n0)).prios,(rndW (rndW n0)).down.set 1 true,cutL (rndW (rndW n0)) 1⟩
theorem t3_ok:okT t3=true:=by decide +kernel
theorem n0_ok:VN n0:=VN.new t3_ok (by decide +kernel)
theorem n3_ok:VN n3:=n0_ok.rnd.rnd.cut 1
theorem g0_eq:asL n0 (goalW n0)=[2,1,2,1,2,3,0,2,0,2]:=by decide +kernel
theorem r0_eq:asL n0 (roleW n0)=[2,2,2,2,2,2,0,2,0,2]:=by decide +kernel
theorem r2_eq:asL (rndW (rndW n0)) (roleW (rndW (rndW n0)))=[2,1,2,1,2,3,0,2,0,2]:=by decide +kernel
theorem g3_eq:asL n3 (goalW n3)=[2,1,0,0,2,1,0,2,0,2]:=by decide +kernel
theorem wakes_ans:ans Try.prog pol 7 []=some (B true):=by
 have k0:=three_ans
 have k1:ans Try.prog pol 15 [tpT true true t3,.sl true 1 [I 0,I 0,I 0,I 0,I 0]]=some (.tup [nwT fl1 n0,I 0]):=New_ok true true true t3 pr0 t3_ok (by decide +kernel)
 have k2:=GoalT_ok fl1 n0 n0_ok.z n0_ok.ok
 have k3:=RolesT_ok fl1 n0 n0_ok.z n0_ok.ok
 have k4:=RoundV fl1 n0 n0_ok
 have k5:=RoundV fl1 (rndW n0) n0_ok.rnd
 have k6:=RolesT_ok fl1 (rndW (rndW n0)) n0_ok.rnd.rnd.z n0_ok.rnd.rnd.ok
 have k7:ans Try.prog pol 13 [nwT fl1 (rndW (rndW n0)),I 1]=some (.tup [nwT fl1 n3,I 0]):=Cut_ok fl1 (rndW (rndW n0)) n0_ok.rnd.rnd.z n0_ok.rnd.rnd.ok 1 (by decide +kernel) n0_ok.rnd.rnd.b6
 have k8:=GoalT_ok fl1 n3 n3_ok.z n3_ok.ok
 have k9:=Cut_arg fl1 n0 5 n0_ok.z n0_ok.ok (.inr (by decide +kernel))
 rw [g0_eq] at k2
 rw [r0_eq] at k3
 rw [r2_eq] at k6
 rw [g3_eq] at k8
 have e1:=equalI_ans true true [2,1,2,1,2,3,0,2,0,2] [2,1,2,1,2,3,0,2,0,2] (by decide)
 have e2:=equalI_ans true true [2,2,2,2,2,2,0,2,0,2] [2,2,2,2,2,2,0,2,0,2] (by decide)
 have e3:=equalI_ans true true [2,1,0,0,2,1,0,2,0,2] [2,1,0,0,2,1,0,2,0,2] (by decide)
 have d1:decide ([(2:Int),1,2,1,2,3,0,2,0,2]=[2,1,2,1,2,3,0,2,0,2])=true:=by decide
 have d2:decide ([(2:Int),2,2,2,2,2,0,2,0,2]=[2,2,2,2,2,2,0,2,0,2])=true:=by decide
 have d3:decide ([(2:Int),1,0,0,2,1,0,2,0,2]=[2,1,0,0,2,1,0,2,0,2])=true:=by decide
 rw [d1] at e1
 rw [d2] at e2
 rw [d3] at e3
 simp only [List.map_cons,List.map_nil] at k2 k3 k6 k8 e1 e2 e3
 generalize n3=w3 at *
 generalize rndW (rndW n0)=w2 at *
 generalize rndW n0=w1 at *
 generalize n0=w0 at *
 generalize t3=T3 at *
 refine ans_go 100 1 il7_eq (Nat.le_of_ble_eq_true rfl) ?_
 (repeat' first|simp only [il7c,go_sem,k0,k1,k2,k3,k4,k5,k6,k7,k8,k9,e1,e2,e3]|(with_reducible first|apply wD|apply wT|(apply wM; intro)|(apply wL; intro))|((with_reducible first|refine wA ?_ ?_|refine wE ?_); rfl))
end Go.Proofs.Ytbibdnlbpjnieaa
namespace Go.Proofs.Ytbibdnlbpjnieaa
open Go Go.Abs
theorem shapes_ans (c1 c2 c3 c4 cp cc:Bool) (d:Dr) (hd:drP d) (prios cuts:List Int) (hp:u8P prios) (hcu:u8P cuts) :
  ans Try.prog pol 6 [drT c1 c2 c3 c4 d,.sl cp 1 (prios.map U8),.sl cc 1 (cuts.map U8)]=some (B true):=by
 have k0:=wakes_ans
 have k1:=made_ansG c1 c2 c3 c4 cp cc d hd prios cuts hp hcu
 obtain ⟨hv,ht⟩:=mdW_ok hd hp cuts []
 generalize (mdW d prios cuts []).1=f at *
 generalize (mdW d prios cuts []).2=w at *
 obtain ⟨z1,z2,z3⟩:=okT_size hv.t
 obtain ⟨N,hN⟩:∃ N:Nat,(N:Nat)=w.t.nodes:=⟨w.t.nodes.toNat,by omega⟩
 have hNn:w.t.nodes.toNat=N:=by omega
 have k2:=GoalT_ok f w hv.z hv.ok
 have hGl:=asL_ln w (goalW w)
 have v1:IntKind.i64.wrap (2*((w.t.links.length:Nat):Int))=((2*w.t.links.length:Nat):Int):=by rw [wrap_i64 (by omega) (by omega)]; omega
 have hdl:=hv.dl
 have hsl:decide ((w.t.station.length:Int)=w.t.nodes)=true:=decide_eq_true z2
 have hroom:8*N≤roomB:=by rw [Nat.mul_comm]; exact ap_room (by omega) (by omega)
 have hbig:N≤9223372036854775807:=by omega
 have hpos:0≤w.t.nodes:=by omega
 have hmap:List.replicate N (AV.t (T.sc (Value.int IntKind.i64 0)))=((List.replicate N (0:Int)).map I).map .t:=by simp
 have l0:=fun J nn hn R e=>shape_l0 f w hv N hN J nn hn R e 0 (Nat.zero_le _)
 have l3:=fun dd nn hn R e mr hmr=>shape_l3 f w hv N hN dd nn hn R e mr hmr
 generalize shL w w.t.links.length=S at *
 generalize asL w (goalW w)=G at *
 obtain ⟨nn,hn⟩:∃ nn,1000 < nn:=⟨1001,by omega⟩
 refine ans_go nn 1 il6_eq (Nat.le_of_ble_eq_true rfl) ?_
 (repeat' first|simp only [il6c,go_sem,k0,k1,k2,hGl,v1,hdl,hsl,hroom,hbig,hpos,hNn]|(with_reducible first|apply wD|apply wT|(apply wM; intro)|(apply wL; intro))|((with_reducible first|refine wA ?_ ?_|refine wE ?_); rfl))
 rw [hmap]
 refine l0 _ _ hn _ _ ?_ ?_
 ·simp only [go_sem]
 intro e mr hmr he
 (repeat' first|simp only [il6c,go_sem,he,frz_rowG']|(with_reducible first|apply wD|apply wT|(apply wM; intro)|(apply wL; intro))|((with_reducible first|refine wA ?_ ?_|refine wE ?_); rfl))
 refine l3 _ _ hn _ _ mr hmr ?_ ?_
 ·simp only [go_sem,he]
 intro e hh
 (repeat' first|simp only [il6c,go_sem]|(with_reducible first|apply wD|apply wT|(apply wM; intro)|(apply wL; intro))|((with_reducible first|refine wA ?_ ?_|refine wE ?_); rfl))
end Go.Proofs.Ytbibdnlbpjnieaa
namespace Go.Proofs.Ytbibdnlbpjnieaa
open Go Go.Abs
theorem len_lt {n:Nat} (h:n≤maxLen):n < 9223372036854775808:=Nat.lt_of_le_of_lt h (by decide)
theorem u8s_one {x:T} (f:FitE Try.prog 5 x):∃ a,x=U8 a∧(fun a:Int=>0≤a∧a < 256) a:=by
 obtain ⟨n0,rfl,w0⟩:=fit_leaf (l:=.int .u8) (by kernel_rfl) (by kernel_rfl) f
 exact ⟨n0,rfl,wf_u8 w0⟩
theorem u8s {xs:List T} (h:∀ y∈xs,FitE Try.prog 5 y):∃ l,xs=List.map U8 l∧∀ a∈l,(fun a:Int=>0≤a∧a < 256) a:=list_enc' (fun y hy=>u8s_one (h y hy))
end Go.Proofs.Ytbibdnlbpjnieaa
