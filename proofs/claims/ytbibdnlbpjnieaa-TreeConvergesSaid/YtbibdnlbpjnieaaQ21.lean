/- Part 21 of the proof of TreeConverges. -/
import Derived.Test.YtbibdnlbpjnieaaQ20
set_option linter.all false
set_option maxRecDepth 100000
set_option maxHeartbeats 4000000
namespace Go.Proofs.Ytbibdnlbpjnieaa
open Go Go.Abs
def dg (n:Int) (L:List Lk):Int:=L.foldr (fun l s=>s+(if l.a=n then 1 else 0)+(if l.b=n then 1 else 0)) 0
theorem dg_app (n:Int) (L:List Lk) (l:Lk):dg n (L++[l])=dg n L+(if l.a=n then 1 else 0)+(if l.b=n then 1 else 0):=by
 induction L with
 | nil=>simp [dg]
 | cons x L ih =>
  simp only [dg,List.cons_append,List.foldr_cons] at ih ⊢
  rw [ih]
  omega
theorem dg_mk (n:Int) (L:List Lk) (d:Dr) (k:Nat) (a b:Int):dg n (L++[mkK d k a b])=dg n L+(if a=n then 1 else 0)+(if b=n then 1 else 0):=dg_app n L _
theorem dg_zero {n:Int} {L:List Lk} (h:∀ l∈L,l.a≠n∧l.b≠n):dg n L=0:=by
 induction L with
 | nil=>rfl
 | cons x L ih =>
  have h0:=h x (by simp)
  have:=ih (fun l hl=>h l (by simp [hl]))
  simp only [dg,List.foldr_cons] at this ⊢
  rw [this,if_neg h0.1,if_neg h0.2]; rfl
theorem degs_dg {N:Nat}:∀ (L:List Lk) (m:List Int),(∀ l∈L,(0≤l.a∧l.a.toNat < N)∧(0≤l.b∧l.b.toNat < N)∧l.a≠l.b)→m.length=N→∀ n:Nat,n < N→iA (L.foldl dStep m) (n:Nat)=iA m (n:Nat)+dg (n:Nat) L:=by
 intro L
 induction L with
 | nil=>intro m _ _ n _; simp [dg]
 | cons l L ih =>
  intro m hv hm n hn
  obtain ⟨⟨a0,a1⟩,⟨b0,b1⟩,hab⟩:=hv l (by simp)
  rw [List.foldl_cons,ih (dStep m l) (fun x hx=>hv x (by simp [hx])) (by simp [dStep,hm]) n hn]
  have hstep:iA (dStep m l) (n:Nat)=iA m (n:Nat)+(if l.a=(n:Nat) then 1 else 0)+(if l.b=(n:Nat) then 1 else 0):=by
   have hne:l.a.toNat≠l.b.toNat:=fun h=>hab (by omega)
   simp only [dStep,iA,Int.toNat_natCast]
   by_cases hb:l.b.toNat=n
   ·have hb':l.b=(n:Nat):=by omega
    have ha':¬ l.a=(n:Nat):=by omega
    subst hb
    rw [List.getElem?_set_self (by simp; omega),if_pos hb',if_neg ha',List.getElem?_set_ne hne]
    simp
   ·have hb':¬ l.b=(n:Nat):=by omega
    rw [List.getElem?_set_ne hb,if_neg hb']
    by_cases ha:l.a.toNat=n
    ·have ha':l.a=(n:Nat):=by omega
     subst ha
     rw [List.getElem?_set_self (by omega),if_pos ha']
     simp
    ·have ha':¬ l.a=(n:Nat):=by omega
     rw [List.getElem?_set_ne ha,if_neg ha']
     simp
  rw [hstep]
  simp only [dg,List.foldr_cons]
  omega
section
variable {d:Dr} (hd:drP d)
include hd
omit hd in
theorem dSt_at (n:Nat):(dSt d)[n]?.getD false=decide (brN d≤n∧n < brN d+stN d):=by
 by_cases h:n < brN d+stN d
 ·simp [dSt,h]
 ·simp [dSt,h]
def lkV (d:Dr) (l:Lk):Prop:=(0≤l.a∧l.a < ((brN d+stN d:Nat):Int))∧(0≤l.b∧l.b < ((brN d+stN d:Nat):Int))∧l.a≠l.b∧(l.a < (brN d:Nat)∨l.b < (brN d:Nat))∧(1≤l.per∧l.per≤1000)∧0≤l.delay∧l.delay≤10000
theorem lkR_iff (L:List Lk) (l:Lk):lkR ⟨((brN d+stN d:Nat):Int),dSt d,L⟩ l=true↔lkV d l:=by
 simp only [lkR,lk1,lk2,lk4,nodeP,stA,dSt_at,Bool.and_eq_true,decide_eq_true_eq,Bool.not_eq_true',Bool.and_eq_false_iff,decide_eq_false_iff_not,lkV]
 constructor
 ·rintro ⟨⟨h1,h2,h3⟩,h4,h5⟩
  exact ⟨h1,h2,h3,by omega,h5⟩
 ·rintro ⟨h1,h2,h3,h4,h5⟩
  refine ⟨⟨h1,h2,h3⟩,?_,h5⟩
  omega
theorem mkK_V (n:Nat) (a b:Int):(1≤(mkK d n a b).per∧(mkK d n a b).per≤1000)∧0≤(mkK d n a b).delay∧(mkK d n a b).delay≤10000:=by
 have h1:=pkL_bd hd.pers n
 have h2:=pkL_bd hd.delays n
 simp only [mkK]
 omega
structure Snd (d:Dr) (L:List Lk):Prop where
 v:∀ l∈L,lkV d l
 j:L.Pairwise (fun m l=>joins l m=false)
 n:L.length≤24
theorem wD_or {L:List Lk} (h:Snd d L) (a b:Int):(wD d L a b=L∨wD d L a b=L++[mkK d L.length a b])∧Snd d (wD d L a b):=by
 unfold wD wth
 by_cases h1:L.length=24∨lkR ⟨((brN d+stN d:Nat):Int),dSt d,L⟩ (mkK d L.length a b)=false
 ·rw [if_pos h1]; exact ⟨.inl rfl,h⟩
 ·rw [if_neg h1]
  by_cases h2:jnL L a b=true
  ·rw [if_pos h2]; exact ⟨.inl rfl,h⟩
  ·rw [if_neg h2]
   have h3:lkV d (mkK d L.length a b):=by
    rw [← lkR_iff hd L]
    cases hq:lkR ⟨((brN d+stN d:Nat):Int),dSt d,L⟩ (mkK d L.length a b) with
    | true=>rfl
    | false=>exact absurd (.inr hq) h1
   have h4:L.length≠24:=fun e=>h1 (.inl e)
   have h5:=h.n
   refine ⟨.inr rfl,fun l hl=>?_,?_,by simp; omega⟩
   ·rcases List.mem_append.1 hl with hl|hl
    ·exact h.v l hl
    ·rw [List.mem_singleton] at hl; rw [hl]; exact h3
   ·rw [List.pairwise_append]
    refine ⟨h.j,List.pairwise_singleton _ _,fun m hm l hl=>?_⟩
    rw [List.mem_singleton] at hl
    rw [hl]
    refine decide_eq_false (fun hq=>h2 ?_)
    simp only [mkK] at hq
    simp only [jnL,List.any_eq_true,decide_eq_true_eq]
    exact ⟨m,hm,by omega⟩
theorem wD_new {L:List Lk} (h:L.length < 24) {a b:Int} (hv:(0≤a∧a < ((brN d+stN d:Nat):Int))∧(0≤b∧b < ((brN d+stN d:Nat):Int))∧a≠b∧(a < (brN d:Nat)∨b < (brN d:Nat))) (hj:∀ l∈L,¬ (l.a=a∧l.b=b∨l.a=b∧l.b=a)):wD d L a b=L++[mkK d L.length a b]:=by
 unfold wD wth
 have h1:lkR ⟨((brN d+stN d:Nat):Int),dSt d,L⟩ (mkK d L.length a b)=true:=by
  rw [lkR_iff hd]
  exact ⟨hv.1,hv.2.1,hv.2.2.1,hv.2.2.2,mkK_V hd _ _ _⟩
 have h2:¬ jnL L a b=true:=by
  intro hq
  simp only [jnL,List.any_eq_true,decide_eq_true_eq] at hq
  obtain ⟨l,hl,hq⟩:=hq
  exact hj l hl hq
 rw [if_neg (by rintro (e|e); omega; rw [h1] at e; cases e),if_neg h2]
theorem dL1_ok:Snd d (dL1 d)∧(dL1 d).length=brN d - 1∧(∀ l∈dL1 d,l.a < (brN d:Nat)∧l.b < (brN d:Nat))∧∀ i,i < brN d - 1→∃ l∈dL1 d,l.a=(i:Nat)∧l.b=((i+1:Nat):Int):=by
 obtain ⟨b1,b2,b3⟩:=brN_bd hd
 obtain ⟨s1,s2,s3⟩:=stN_bd hd
 have key:∀ k,k≤brN d - 1→Snd d ((List.range k).foldl (fun L i=>wD d L (i:Nat) ((i+1:Nat):Int)) [])∧((List.range k).foldl (fun L i=>wD d L (i:Nat) ((i+1:Nat):Int)) []).length=k ∧
   (∀ l∈(List.range k).foldl (fun L i=>wD d L (i:Nat) ((i+1:Nat):Int)) [],l.b=l.a+1∧0≤l.a∧l.a < (k:Nat))∧∀ i,i < k→∃ l∈(List.range k).foldl (fun L i=>wD d L (i:Nat) ((i+1:Nat):Int)) [],l.a=(i:Nat)∧l.b=((i+1:Nat):Int):=by
  intro k
  induction k with
  | zero=>intro _; exact ⟨⟨(fun l hl=>nomatch hl),List.Pairwise.nil,Nat.zero_le _⟩,rfl,(fun l hl=>nomatch hl),fun i hi=>by omega⟩
  | succ k ih =>
   intro hk
   obtain ⟨i1,i2,i3,i4⟩:=ih (by omega)
   rw [List.range_succ,List.foldl_append,List.foldl_cons,List.foldl_nil]
   generalize (List.range k).foldl (fun L i=>wD d L (i:Nat) ((i+1:Nat):Int)) []=L at *
   have hnew:=wD_new hd (L:=L) (by omega) (a:=(k:Nat)) (b:=((k+1:Nat):Int)) ⟨by omega,by omega,by omega,by omega⟩ (fun l hl=>by have:=i3 l hl; omega)
   have hs:=(wD_or hd i1 (k:Nat) ((k+1:Nat):Int)).2
   rw [hnew] at hs ⊢
   refine ⟨hs,by simp [i2],fun l hl=>?_,fun i hi=>?_⟩
   ·rcases List.mem_append.1 hl with hl|hl
    ·have:=i3 l hl; omega
    ·rw [List.mem_singleton] at hl; rw [hl]; simp only [mkK]; omega
   ·by_cases hik:i=k
    ·subst hik; exact ⟨_,List.mem_append_right _ (List.mem_singleton.2 rfl),rfl,rfl⟩
    ·obtain ⟨l,h1,h2⟩:=i4 i (by omega)
     exact ⟨l,List.mem_append_left _ h1,h2⟩
 obtain ⟨k1,k2,k3,k4⟩:=key (brN d - 1) (Nat.le_refl _)
 exact ⟨k1,k2,fun l hl=>by have:=k3 l hl; omega,k4⟩
structure Lnk2 (d:Dr) (L:List Lk):Prop where
 s:Snd d L
 chain:∀ i,i < brN d - 1→∃ l∈L,l.a=(i:Nat)∧l.b=((i+1:Nat):Int)
 home:∀ s,s < stN d→∃ l∈L,l.a=((brN d+s:Nat):Int)∧(0≤l.b∧l.b < (brN d:Nat))
theorem dL2_ok:Lnk2 d (dL2 d)∧∀ s,s < stN d→dg ((brN d+s:Nat):Int) (dL2 d)=1:=by
 obtain ⟨b1,b2,b3⟩:=brN_bd hd
 obtain ⟨s1,s2,s3⟩:=stN_bd hd
 obtain ⟨c1,c2,c3,c4⟩:=dL1_ok hd
 have key:∀ k,k≤stN d→Snd d ((List.range k).foldl (fun L s=>wD d L ((brN d+s:Nat):Int) (pkL d.homes (2*s) % (brN d:Nat))) (dL1 d))∧((List.range k).foldl (fun L s=>wD d L ((brN d+s:Nat):Int) (pkL d.homes (2*s) % (brN d:Nat))) (dL1 d)).length=brN d - 1+k ∧
   (∀ l∈(List.range k).foldl (fun L s=>wD d L ((brN d+s:Nat):Int) (pkL d.homes (2*s) % (brN d:Nat))) (dL1 d),l.a < ((brN d+k:Nat):Int)∧l.b < (brN d:Nat)) ∧
   (∀ i,i < brN d - 1→∃ l∈(List.range k).foldl (fun L s=>wD d L ((brN d+s:Nat):Int) (pkL d.homes (2*s) % (brN d:Nat))) (dL1 d),l.a=(i:Nat)∧l.b=((i+1:Nat):Int)) ∧
   (∀ s,s < k→∃ l∈(List.range k).foldl (fun L s=>wD d L ((brN d+s:Nat):Int) (pkL d.homes (2*s) % (brN d:Nat))) (dL1 d),l.a=((brN d+s:Nat):Int)∧(0≤l.b∧l.b < (brN d:Nat))) ∧
   ∀ s,s < k→dg ((brN d+s:Nat):Int) ((List.range k).foldl (fun L s=>wD d L ((brN d+s:Nat):Int) (pkL d.homes (2*s) % (brN d:Nat))) (dL1 d))=1:=by
  intro k
  induction k with
  | zero=>intro _; exact ⟨c1,c2,fun l hl=>by have:=c3 l hl; omega,c4,fun s hs=>by omega,fun s hs=>by omega⟩
  | succ k ih =>
   intro hk
   obtain ⟨i1,i2,i3,i4,i5,i6⟩:=ih (by omega)
   rw [List.range_succ,List.foldl_append,List.foldl_cons,List.foldl_nil]
   generalize (List.range k).foldl (fun L s=>wD d L ((brN d+s:Nat):Int) (pkL d.homes (2*s) % (brN d:Nat))) (dL1 d)=L at *
   have hm0:=Int.emod_nonneg (pkL d.homes (2*k)) (b:=((brN d:Nat):Int)) (by omega)
   have hm1:=Int.emod_lt_of_pos (pkL d.homes (2*k)) (b:=((brN d:Nat):Int)) (by omega)
   generalize pkL d.homes (2*k) % ((brN d:Nat):Int)=V at *
   have hnew:=wD_new hd (L:=L) (by omega) (a:=((brN d+k:Nat):Int)) (b:=V) ⟨by omega,by omega,by omega,by omega⟩ (fun l hl=>by have:=i3 l hl; omega)
   have hs:=(wD_or hd i1 ((brN d+k:Nat):Int) V).2
   rw [hnew] at hs ⊢
   refine ⟨hs,by simp [i2]; omega,fun l hl=>?_,fun i hi=>?_,fun s hs=>?_,fun s hs=>?_⟩
   ·rcases List.mem_append.1 hl with hl|hl
    ·have:=i3 l hl; omega
    ·rw [List.mem_singleton] at hl; rw [hl]; simp only [mkK]; omega
   ·obtain ⟨l,h1,h2⟩:=i4 i hi
    exact ⟨l,List.mem_append_left _ h1,h2⟩
   ·by_cases hsk:s=k
    ·subst hsk; exact ⟨_,List.mem_append_right _ (List.mem_singleton.2 rfl),rfl,hm0,hm1⟩
    ·obtain ⟨l,h1,h2⟩:=i5 s (by omega)
     exact ⟨l,List.mem_append_left _ h1,h2⟩
   ·rw [dg_mk]
    by_cases hsk:s=k
    ·subst hsk
     rw [dg_zero (fun l hl=>by have:=i3 l hl; omega),if_pos rfl,if_neg (by omega)]; rfl
    ·rw [i6 s (by omega),if_neg (by omega),if_neg (by omega)]; rfl
 obtain ⟨k1,k2,k3,k4,k5,k6⟩:=key (stN d) (Nat.le_refl _)
 exact ⟨⟨k1,k4,k5⟩,k6⟩
theorem lnk2_step {L:List Lk} (h:Lnk2 d L) (a b:Int):Lnk2 d (wD d L a b)∧∀ n,dg n L≤dg n (wD d L a b)∧dg n (wD d L a b)≤dg n L+(if a=n then 1 else 0)+(if b=n then 1 else 0):=by
 obtain ⟨h1,h2⟩:=wD_or hd h.s a b
 rcases h1 with e|e
 ·rw [e]
  refine ⟨h,fun n=>⟨Int.le_refl _,?_⟩⟩
  split <;> split <;> omega
 ·rw [e] at h2 ⊢
  refine ⟨⟨h2,fun i hi=>?_,fun s hs=>?_⟩,fun n=>?_⟩
  ·obtain ⟨l,h1,h3⟩:=h.chain i hi
   exact ⟨l,List.mem_append_left _ h1,h3⟩
  ·obtain ⟨l,h1,h3⟩:=h.home s hs
   exact ⟨l,List.mem_append_left _ h1,h3⟩
  ·rw [dg_mk]
   constructor
   ·split <;> split <;> omega
   ·omega
theorem dL5_ok:Lnk2 d (dL5 d)∧∀ s,s < stN d→1≤dg ((brN d+s:Nat):Int) (dL5 d)∧dg ((brN d+s:Nat):Int) (dL5 d)≤2:=by
 obtain ⟨b1,b2,b3⟩:=brN_bd hd
 obtain ⟨s1,s2,s3⟩:=stN_bd hd
 obtain ⟨c1,c2⟩:=dL2_ok hd
 have h3:Lnk2 d (dL3 d)∧∀ s,s < stN d→dg ((brN d+s:Nat):Int) (dL3 d)=1:=by
  unfold dL3
  split
  ·obtain ⟨i1,i2⟩:=lnk2_step hd c1 ((brN d - 1:Nat):Int) 0
   refine ⟨i1,fun s hs=>?_⟩
   have h4:=i2 ((brN d+s:Nat):Int)
   rw [c2 s hs,if_neg (by omega),if_neg (by omega)] at h4
   omega
  ·exact ⟨c1,c2⟩
 have h4:∀ k,k≤stN d→Lnk2 d ((List.range k).foldl (fun L s=>if 0 < pkL d.homes (2*s+1) % 3 then wD d L ((brN d+s:Nat):Int) (pkL d.homes (2*s+1) % (brN d:Nat)) else L) (dL3 d))∧∀ s,s < stN d→1≤dg ((brN d+s:Nat):Int) ((List.range k).foldl (fun L s=>if 0 < pkL d.homes (2*s+1) % 3 then wD d L ((brN d+s:Nat):Int) (pkL d.homes (2*s+1) % (brN d:Nat)) else L) (dL3 d))∧dg ((brN d+s:Nat):Int) ((List.range k).foldl (fun L s=>if 0 < pkL d.homes (2*s+1) % 3 then wD d L ((brN d+s:Nat):Int) (pkL d.homes (2*s+1) % (brN d:Nat)) else L) (dL3 d))≤(if s < k then 2 else 1):=by
  intro k
  induction k with
  | zero=>intro _; exact ⟨h3.1,fun s hs=>by have:=h3.2 s hs; rw [if_neg (by omega)]; simp only [List.range_zero,List.foldl_nil]; omega⟩
  | succ k ih =>
   intro hk
   obtain ⟨i1,i2⟩:=ih (by omega)
   rw [List.range_succ,List.foldl_append,List.foldl_cons,List.foldl_nil]
   generalize (List.range k).foldl (fun L s=>if 0 < pkL d.homes (2*s+1) % 3 then wD d L ((brN d+s:Nat):Int) (pkL d.homes (2*s+1) % (brN d:Nat)) else L) (dL3 d)=L at *
   have hm1:=Int.emod_lt_of_pos (pkL d.homes (2*k+1)) (b:=((brN d:Nat):Int)) (by omega)
   generalize pkL d.homes (2*k+1) % ((brN d:Nat):Int)=V at *
   by_cases hq:0 < pkL d.homes (2*k+1) % 3
   ·rw [if_pos hq]
    obtain ⟨j1,j2⟩:=lnk2_step hd i1 ((brN d+k:Nat):Int) V
    refine ⟨j1,fun s hs=>?_⟩
    have h5:=j2 ((brN d+s:Nat):Int)
    have h6:=i2 s hs
    rw [if_neg (show ¬ V=((brN d+s:Nat):Int) by omega)] at h5
    by_cases hsk:s=k
    ·subst hsk
     rw [if_pos rfl] at h5
     rw [if_neg (by omega)] at h6
     rw [if_pos (by omega)]
     omega
    ·rw [if_neg (by omega)] at h5
     by_cases hlt:s < k
     ·rw [if_pos hlt] at h6; rw [if_pos (by omega)]; omega
     ·rw [if_neg hlt] at h6; rw [if_neg (by omega)]; omega
   ·rw [if_neg hq]
    refine ⟨i1,fun s hs=>?_⟩
    have h6:=i2 s hs
    by_cases hlt:s < k
    ·rw [if_pos hlt] at h6; rw [if_pos (by omega)]; omega
    ·rw [if_neg hlt] at h6
     split <;> omega
 have h5:∀ (l:List Nat),Lnk2 d (l.foldl (fun L i=>wD d L (pkL d.chords (2*i) % (brN d:Nat)) (pkL d.chords (2*i+1) % (brN d:Nat))) (dL4 d))∧∀ s,s < stN d→dg ((brN d+s:Nat):Int) (l.foldl (fun L i=>wD d L (pkL d.chords (2*i) % (brN d:Nat)) (pkL d.chords (2*i+1) % (brN d:Nat))) (dL4 d))=dg ((brN d+s:Nat):Int) (dL4 d):=by
  have h40:Lnk2 d (dL4 d):=(h4 (stN d) (Nat.le_refl _)).1
  intro l
  suffices hg:∀ (l:List Nat) (L:List Lk),Lnk2 d L→Lnk2 d (l.foldl (fun L i=>wD d L (pkL d.chords (2*i) % (brN d:Nat)) (pkL d.chords (2*i+1) % (brN d:Nat))) L)∧∀ s,s < stN d→dg ((brN d+s:Nat):Int) (l.foldl (fun L i=>wD d L (pkL d.chords (2*i) % (brN d:Nat)) (pkL d.chords (2*i+1) % (brN d:Nat))) L)=dg ((brN d+s:Nat):Int) L from hg l _ h40
  intro l
  induction l with
  | nil=>intro L h; exact ⟨h,fun _ _=>rfl⟩
  | cons i l ih =>
   intro L h
   rw [List.foldl_cons]
   have hm1:=Int.emod_lt_of_pos (pkL d.chords (2*i)) (b:=((brN d:Nat):Int)) (by omega)
   have hm2:=Int.emod_lt_of_pos (pkL d.chords (2*i+1)) (b:=((brN d:Nat):Int)) (by omega)
   obtain ⟨j1,j2⟩:=lnk2_step hd h (pkL d.chords (2*i) % (brN d:Nat)) (pkL d.chords (2*i+1) % (brN d:Nat))
   obtain ⟨q1,q2⟩:=ih _ j1
   refine ⟨q1,fun s hs=>?_⟩
   rw [q2 s hs]
   have h6:=j2 ((brN d+s:Nat):Int)
   rw [if_neg (by omega),if_neg (by omega)] at h6
   omega
 obtain ⟨q1,q2⟩:=h5 (List.range (min 6 (d.chords.length / 2)))
 refine ⟨q1,fun s hs=>?_⟩
 have e1:dg ((brN d+s:Nat):Int) (dL5 d)=dg ((brN d+s:Nat):Int) (dL4 d):=q2 s hs
 have e2:=(h4 (stN d) (Nat.le_refl _)).2 s hs
 rw [if_pos hs] at e2
 rw [e1]
 exact e2
theorem dTopo_ok:okT (dTopo d)=true:=by
 obtain ⟨b1,b2,b3⟩:=brN_bd hd
 obtain ⟨s1,s2,s3⟩:=stN_bd hd
 obtain ⟨h1,h2⟩:=dL5_ok hd
 have hsz:sizeP (dTopo d):=by
  refine ⟨?_,?_,h1.s.n⟩
  ·show 2≤((brN d+stN d:Nat):Int)∧((brN d+stN d:Nat):Int)≤12
   omega
  ·show ((dSt d).length:Int)=((brN d+stN d:Nat):Int)
   rw [dSt_len]
 have hsound:soundL (dTopo d)=true:=by
  rw [soundL,List.all_eq_true]
  intro i hi
  have hi:i < (dL5 d).length:=List.mem_range.1 hi
  have hl:lnk (dTopo d) i=(dL5 d)[i]:=by simp [lnk,dTopo,hi]
  have hv:=h1.s.v _ (List.getElem_mem hi)
  rw [hl]
  have hr:=(lkR_iff hd (dL5 d) (dL5 d)[i]).2 hv
  simp only [lkR,Bool.and_eq_true] at hr
  simp only [lkOk,Bool.and_eq_true]
  refine ⟨hr.1,hr.2.1,?_,hr.2.2⟩
  rw [lk3,List.all_eq_true]
  intro m hm
  obtain ⟨j,hj,rfl⟩:=List.mem_iff_getElem.1 hm
  simp only [dTopo,List.length_take] at hj
  have hp:=List.pairwise_iff_getElem.1 h1.s.j j i (by omega) hi (by omega)
  have e:((dTopo d).links.take i)[j]=(dL5 d)[j]:=by simp [dTopo]
  rw [e,hp]; rfl
 have hends:∀ l∈(dTopo d).links,endsP (dTopo d) l:=fun l hl=>by
  have:=h1.s.v l hl
  exact ⟨this.1,this.2.1,this.2.2.1⟩
 have hdeg:degOk (dTopo d)=true:=by
  rw [degOk,List.all_eq_true]
  intro n hn
  have hn:n < brN d+stN d:=by rw [← dSt_len]; exact List.mem_range.1 hn
  have hst:stA (dTopo d) n=decide (brN d≤n∧n < brN d+stN d):=dSt_at n
  rw [hst]
  by_cases hq:brN d≤n
  ·have hdd:iA (degs (dTopo d)) (n:Nat)=dg (n:Nat) (dL5 d):=by
    have h3:=degs_dg (N:=brN d+stN d) (dL5 d) (List.replicate (brN d+stN d) 0) (fun l hl=>by have:=h1.s.v l hl; unfold lkV at this; omega) (by simp) n hn
    have h4:iA (List.replicate (brN d+stN d) (0:Int)) (n:Nat)=0:=by
     simp only [iA,Int.toNat_natCast,List.getElem?_replicate]
     split <;> rfl
    rw [h4,Int.zero_add] at h3
    exact h3
   have h5:=h2 (n - brN d) (by omega)
   have e:((brN d+(n - brN d):Nat):Int)=(n:Nat):=by omega
   rw [e] at h5
   rw [hdd,decide_eq_true h5]; simp
  ·have:decide (brN d≤n∧n < brN d+stN d)=false:=decide_eq_false (fun h=>hq h.1)
   rw [this]; rfl
 have hmem:∀ l∈dL5 d,(⟨l.a.toNat,l.b.toNat,0⟩:Ed)∈kEs (fun _=>false) 0 (dTopo d).links:=fun l hl=>by
  rw [kEs_mem]
  obtain ⟨j,hj⟩:=List.mem_iff_getElem?.1 hl
  exact ⟨j,l,hj,rfl,.inl rfl⟩
 have hbr:∀ n,n < brN d→Cn (kEs (fun _=>false) 0 (dTopo d).links) n 0:=by
  intro n
  induction n with
  | zero=>intro _; exact .refl 0
  | succ n ih =>
   intro hn
   obtain ⟨l,hl,e1,e2⟩:=h1.chain n (by omega)
   have h3:=hmem l hl
   rw [e1,e2,Int.toNat_natCast,Int.toNat_natCast] at h3
   have h4:=kEs_sym _ _ _ h3
   exact .step (e:=⟨n+1,n,0⟩) h4 (ih (by omega))
 have hall:∀ n,n < brN d+stN d→Cn (kEs (fun _=>false) 0 (dTopo d).links) n 0:=by
  intro n hn
  by_cases hq:n < brN d
  ·exact hbr n hq
  ·obtain ⟨l,hl,e1,e2⟩:=h1.home (n - brN d) (by omega)
   have h3:=hmem l hl
   rw [e1,Int.toNat_natCast,show brN d+(n - brN d)=n by omega] at h3
   have h5:=hbr l.b.toNat (by omega)
   exact .step (e:=⟨n,l.b.toNat,0⟩) h3 h5
 have hreach:¬ false∈reachL (dTopo d) 0 (fun _=>false):=by
  intro hf
  obtain ⟨n,hn⟩:=List.mem_iff_getElem?.1 hf
  have hlen:n < (reachL (dTopo d) 0 (fun _=>false)).length:=(List.getElem?_eq_some_iff.1 hn).1
  rw [reachL_len] at hlen
  have hN:(dTopo d).nodes.toNat=brN d+stN d:=by show ((brN d+stN d:Nat):Int).toNat=_; omega
  have:=(reach_spec hends (show 0 < (dTopo d).nodes.toNat by omega) hlen).2 (hall n (by omega))
  rw [hn] at this
  cases this
 simp only [okT,Bool.and_eq_true,Bool.not_eq_true',decide_eq_false_iff_not]
 exact ⟨decide_eq_true hsz,hsound,hdeg,hreach⟩
end
end Go.Proofs.Ytbibdnlbpjnieaa
namespace Go.Proofs.Ytbibdnlbpjnieaa
open Go Go.Abs
def lt2 (a b c d:Int):Prop:=a < c∨a=c∧b < d
instance (a b c d:Int):Decidable (lt2 a b c d):=inferInstanceAs (Decidable (_∨_))
theorem cmp_lt2 (a b c d:Int):decide (cmpL [a,b,0,0,0,0] [c,d,0,0,0,0] < 0)=decide (lt2 a b c d):=by
 congr 1
 rw [eq_iff_iff]
 simp only [cmpL,cmp3,lt2]
 by_cases h1:a < c
 ·simp [h1]
 ·by_cases h2:c < a
  ·simp [h1,h2]; omega
  ·have:a=c:=by omega
   subst this
   by_cases h3:b < d
   ·simp [h3]
   ·by_cases h4:d < b
    ·simp [h3,h4]
    ·have:b=d:=by omega
     subst this; simp
theorem better_ans (a b c d:Int):ans Try.prog pol 100 [.agg [I a,I b],.agg [I c,I d]]=some (B (decide (lt2 a b c d))):=by
 have k1:=compare_ans a b 0 0 0 0 c d 0 0 0 0
 have k2:=cmp_lt2 a b c d
 refine ans_go 1 1 il100_eq (Nat.le_of_ble_eq_true rfl) ?_
 (repeat' first|simp only [il100c,go_sem,k1,k2]|(with_reducible first|refine wD ?_|refine wT ?_|refine wM fun _=>?_|refine wL fun _=>?_)|((with_reducible first|refine wA ?_ ?_|refine wE ?_);rfl))
structure Tp where
 rp:Int
 rn:Int
 cost:Int
 via:Int
 age:Int
abbrev sbC (c1 c2 c3:Bool) (b:Br) (t:Tp):List T:=[I b.p,I b.n,.sl c1 1 (b.ports.map I),.sl c2 1 (b.costs.map I),.sl c3 8 (b.heard.map encH),I t.rp,I t.rn,I t.cost,I t.via,I t.age]
abbrev sbT (c1 c2 c3:Bool) (b:Br) (t:Tp):T:=.agg (sbC c1 c2 c3 b t)
abbrev rkT (h:Hd):T:=.agg [I h.a,I h.b,I h.c,I h.d,I h.e,I h.f]
def ofr (b:Br) (i:Nat):Hd:=⟨(hrd b i).is,(hrd b i).a,(hrd b i).b,(hrd b i).c+cst b i,(hrd b i).d,(hrd b i).e,(hrd b i).f,(hrd b i).g⟩
def leads (b:Br) (i:Nat):Bool:=(hrd b i).is && !decide (1048576 < (ofr b i).c) && decide (lt2 (hrd b i).a (hrd b i).b b.p b.n)
theorem offers_ans (c1 c2 c3:Bool) (b:Br) (t:Tp):ans Try.prog pol 75 [sbT c1 c2 c3 b t]=some (.fn (.func 99) [] [.ip (sbC c1 c2 c3 b t)]):=by
 refine ans_go 1 1 il75_eq (Nat.le_of_ble_eq_true rfl) ?_
 (repeat' first|simp only [il75c,go_sem]|(with_reducible first|refine wD ?_|refine wT ?_|refine wM fun _=>?_|refine wL fun _=>?_)|((with_reducible first|refine wA ?_ ?_|refine wE ?_);rfl))
section
variable {σ:Type} (hp:σ→Heap) (N:Nat) (hN:∀ s,(hp s).length=N) (nx:σ→Nat→σ) (dd nn o:Nat) (b:Br)
 (hy:∀ (s:σ) (i:Nat) (X:Heap) (Q:AV→Heap→Prop),i < b.heard.length→leads b i=true→(∀ X',Q (.t (B true)) (hp (nx s i)++X++X'))→oB (inl Try.prog pol (ans Try.prog pol) nn dd (.yl o) [.t (I (i:Nat)),.t (rkT (ofr b i))] (hp s++X)) Q)
 (hfz:∀ (s:σ) (h:Heap) (q:Nat),N≤q→mapO (frzObj h (fromB q)) (hp s)=some (hp s)) (hoN:o < N)
include hN hy hfz hoN
def ldS (b:Br) (nx:σ→Nat→σ) (s:σ) (i:Nat):σ:=if leads b i=true then nx s i else s
theorem sp_iter (c1 c2 c3:Bool) (t:Tp) (hlen:b.heard.length≤24) (hcl:b.costs.length=b.heard.length) (hbd:∀ i,i < b.heard.length → -1000000000≤(ofr b i).c∧(ofr b i).c≤1000000000) (s:σ) (Q:AV→Heap→Prop) (hn:100 < nn)
  (hQ:∀ v,Q v (hp ((List.range b.heard.length).foldl (ldS b nx) s))) :
  oB (inl Try.prog pol (ans Try.prog pol) nn (dd+1) (.fn 99) [.yl o,.t (.ip (sbC c1 c2 c3 b t))] (hp s)) Q:=by
 refine oB_inl il99_eq (Nat.le_of_ble_eq_true rfl) ?_
 have gA:∀ (s:σ) (x:AObj) (Y:Heap),(hp s++(x::Y))[N]? = some x:=fun s x Y=>by rw [List.getElem?_append_right (by rw [hN]; omega),hN,Nat.sub_self]; rfl
 have gB:∀ (s:σ) (x y:AObj) (Y:Heap),(hp s++(x::y::Y))[N+1]? = some y:=fun s x y Y=>by rw [List.getElem?_append_right (by rw [hN]; omega),hN,Nat.add_sub_cancel_left]; rfl
 have sA:∀ (s:σ) (x z:AObj) (Y:Heap),List.set (hp s++(x::Y):List AObj) N z=hp s++(z::Y):=fun s x z Y=>by
  rw [List.set_append]; simp [hN]
 have sB:∀ (s:σ) (x y z:AObj) (Y:Heap),List.set (hp s++(x::y::Y):List AObj) (N+1) z=hp s++(x::z::Y):=fun s x y z Y=>by
  rw [List.set_append]
  simp [hN]
  intro h; omega
 have tk:∀ (s:σ) (Y:Heap),(hp s++Y).take N=hp s:=fun s Y=>by
  rw [List.take_append,hN,List.take_of_length_le (by rw [hN]; omega)]; simp
 have g6:∀ (s:σ) (hx:Heap),mapO (frzObj hx (fromB N)) (hp s)=some (hp s):=fun s hx=>hfz s hx N (Nat.le_refl _)
 have hle:∀ (s:σ) (Y:Heap),(hp s++Y).length=N+Y.length:=fun s Y=>by simp [hN]
 have f2:decide (N≤o)=false:=decide_eq_false (by omega)
 (repeat' first|simp only [il99c,go_sem,hN]|(with_reducible first|refine wD ?_|refine wT ?_|refine wM fun _=>?_|refine wL fun _=>?_)|((with_reducible first|refine wA ?_ ?_|refine wE ?_);rfl))
 refine loop_range b.heard encH (step:=fun i _ s=>.go (ldS b nx s i)) (fin:=id)
  (St:=fun k s e h=>(e 0=.yl o∧e 1=.t (.ip (sbC c1 c2 c3 b t))∧e 8=.t (.sl c3 8 (b.heard.map encH))∧e 9=.t (I (b.heard.length:Nat))∧e 10=.t (I (k:Nat)))∧h=hp s)
  (Ex:=fun s x e h=>x=.exit 0∧h=hp s) (s:=s) (by omega) ?_ ?_ (by omega) ?_ ?_
 ·intro i x s e h Y R hm hi hx hget hlt hw ⟨hs,hh⟩ hk
  subst hh
  simp only [ctlK_go] at hk
  have hb:=hbd i hi
  have hxe:x=hrd b i:=by simp [hrd,hx]
  have hcs:(b.costs.map I)[i]? = some (I (cst b i)):=by simp [cst,show i < b.costs.length by omega]
  have v1:IntKind.i64.wrap ((hrd b i).c+cst b i)=(hrd b i).c+cst b i:=wrap_i64 (by simp only [ofr] at hb; omega) (by simp only [ofr] at hb; omega)
  subst hxe
  have c2':N < N+(0+1+1):=by omega
  have k1:=better_ans (hrd b i).a (hrd b i).b b.p b.n
  by_cases q0:(hrd b i).is=true
  rotate_left
  ·have q0':(hrd b i).is=false:=by simpa using q0
   have l0:ldS b nx s i=s:=by rw [ldS,if_neg (by simp [leads,q0'])]
   rw [l0] at hk
   (repeat' first|simp only [il99l0_go,il99l0b,go_sem,hs,hget,hlt,encH_cells,hN,gA,gB,sA,sB,hle,hcs,v1,q0',tk,g6,c2',f2,frz_yl,List.append_assoc,hw]|(with_reducible first|refine wD ?_|refine wT ?_|refine wM fun _=>?_|refine wL fun _=>?_)|((with_reducible first|refine wA ?_ ?_|refine wE ?_);rfl))
   all_goals (refine hk _ _ ⟨?_,rfl⟩; simp only [go_sem,hs,hw,f2,frz_yl])
  by_cases q1:1048576 < (hrd b i).c+cst b i
  ·have d1:decide (1048576 < (hrd b i).c+cst b i)=true:=decide_eq_true q1
   have l0:ldS b nx s i=s:=by rw [ldS,if_neg (by simp [leads,ofr,q1])]
   rw [l0] at hk
   (repeat' first|simp only [il99l0_go,il99l0b,go_sem,hs,hget,hlt,encH_cells,hN,gA,gB,sA,sB,hle,hcs,v1,q0,d1,tk,g6,c2',f2,frz_yl,List.append_assoc,hw]|(with_reducible first|refine wD ?_|refine wT ?_|refine wM fun _=>?_|refine wL fun _=>?_)|((with_reducible first|refine wA ?_ ?_|refine wE ?_);rfl))
   all_goals (refine hk _ _ ⟨?_,rfl⟩; simp only [go_sem,hs,hw,f2,frz_yl])
  have d1:decide (1048576 < (hrd b i).c+cst b i)=false:=decide_eq_false q1
  by_cases q2:lt2 (hrd b i).a (hrd b i).b b.p b.n
  rotate_left
  ·rw [decide_eq_false q2] at k1
   have l0:ldS b nx s i=s:=by rw [ldS,if_neg (by simp [leads,q2])]
   rw [l0] at hk
   (repeat' first|simp only [il99l0_go,il99l0b,go_sem,hs,hget,hlt,encH_cells,hN,gA,gB,sA,sB,hle,hcs,v1,q0,d1,k1,tk,g6,c2',f2,frz_yl,List.append_assoc,hw]|(with_reducible first|refine wD ?_|refine wT ?_|refine wM fun _=>?_|refine wL fun _=>?_)|((with_reducible first|refine wA ?_ ?_|refine wE ?_);rfl))
   all_goals (refine hk _ _ ⟨?_,rfl⟩; simp only [go_sem,hs,hw,f2,frz_yl])
  ·rw [decide_eq_true q2] at k1
   have l1:leads b i=true:=by simp only [leads,ofr,q0,d1,decide_eq_true q2,Bool.not_false,Bool.and_self]
   have l0:ldS b nx s i=nx s i:=by rw [ldS,if_pos l1]
   rw [l0] at hk
   have hyi:=fun X Q=>hy s i X Q hi l1
   simp only [ofr] at hyi
   (repeat' first|simp only [il99l0_go,il99l0b,go_sem,hs,hget,hlt,encH_cells,hN,gA,gB,sA,sB,hle,hcs,v1,q0,d1,k1,List.append_assoc]|(with_reducible first|refine wD ?_|refine wT ?_|refine wM fun _=>?_|refine wL fun _=>?_)|((with_reducible first|refine wA ?_ ?_|refine wE ?_);rfl))
   refine hyi _ _ ?_
   intro X'
   have c3':N < N+(0+1+1+X'.length):=by omega
   have c4':N < N+(X'.length+1+1):=by omega
   (repeat' first|simp only [il99l0_go,il99l0b,go_sem,hle,hw,tk,g6,c3',c4',f2,frz_yl,List.append_assoc]|(with_reducible first|refine wD ?_|refine wT ?_|refine wM fun _=>?_|refine wL fun _=>?_)|((with_reducible first|refine wA ?_ ?_|refine wE ?_);rfl))
   all_goals (refine hk _ _ ⟨?_,rfl⟩; simp only [go_sem,hs,hw,f2,frz_yl])
 ·intro s e h Y R hlt ⟨hs,hh⟩ hk
  subst hh
  (repeat' first|simp only [il99l0_go,il99l0b,go_sem,hs,hlt]|(with_reducible first|refine wD ?_|refine wT ?_|refine wM fun _=>?_|refine wL fun _=>?_)|((with_reducible first|refine wA ?_ ?_|refine wE ?_);rfl))
  all_goals (refine hk _ _ _ ?_; simp only [go_sem,id])
 ·simp only [go_sem]
 ·intro x e h ⟨h1,h2⟩
  subst h1
  have hf:∀ (r:List Hd) (k:Nat) (s:σ),foldC (ρ:=σ) (fun i _ s=>Ctl.go (ldS b nx s i)) id k r s=(List.range' k r.length).foldl (ldS b nx) s:=by
   intro r
   induction r with
   | nil=>intro k s; rfl
   | cons l r ih=>intro k s; rw [foldC_go (s':=ldS b nx s k) rfl,ih,List.length_cons,List.range'_succ]; rfl
  rw [hf,← List.range_eq_range'] at h2
  subst h2
  (repeat' first|simp only [il99c,go_sem]|(with_reducible first|refine wD ?_|refine wT ?_|refine wM fun _=>?_|refine wL fun _=>?_)|((with_reducible first|refine wA ?_ ?_|refine wE ?_);rfl))
  all_goals exact hQ _
end
end Go.Proofs.Ytbibdnlbpjnieaa
namespace Go.Proofs.Ytbibdnlbpjnieaa
open Go Go.Abs
structure Os' where
 t:Tp
 m:Hd
 w:Nat
def tp0 (b:Br):Tp:=⟨b.p,b.n,0,-1,0⟩
def opS (b:Br) (s:Os') (i:Nat):Os':=if s.t.via < 0∨lt6 (ofr b i) s.m < 0 then ⟨⟨(ofr b i).a,(ofr b i).b,(ofr b i).c,i,(ofr b i).g⟩,ofr b i,1⟩ else s
def opF (b:Br):Os':=(List.range b.heard.length).foldl (ldS b (opS b)) ⟨tp0 b,zH,0⟩
abbrev zS:T:=.agg [I 0,I 0,.sc (.slice none 0 0),.sc (.slice none 0 0),.sc (.slice none 0 0),I 0,I 0,I 0,I 0,I 0]
noncomputable def lpQ (rf:Code × Code) (E:FEnv):AObj:=.loop 52 (lpEnv 50 (tidyF (some [1,5,6]) E)) [22,23] rf.1 rf.2 false none
noncomputable def hpQ (rf:Code × Code) (c1 c2 c3:Bool) (b:Br) (E:FEnv) (s:Os'):Heap:=[.row 10 [.t zS] 0,.row 10 [.t (sbT c1 c2 c3 b s.t)] 1,.row 6 [.t (rkT s.m)] (min s.w 1),lpQ rf E]
theorem open_yield (rf:Code × Code) (hrf:rfOf Try.prog 52 0=rf) (c1 c2 c3:Bool) (b:Br) (E:FEnv) (hE:E 1=.t (.ip (brC c1 c2 c3 b))∧E 5=.ref 1 1 0 0∧E 6=.ref 2 1 0 0) (dd nn:Nat) (s:Os') (i:Nat) (hi:i < b.heard.length) (X:Heap) (Q:AV→Heap→Prop)
  (hQ:∀ X',Q (.t (B true)) (hpQ rf c1 c2 c3 b E (opS b s i)++X++X')) :
  oB (inl Try.prog pol (ans Try.prog pol) nn (dd+1) (.yl 3) [.t (I (i:Nat)),.t (rkT (ofr b i))] (hpQ rf c1 c2 c3 b E s++X)) Q:=by
 subst hrf
 have hg:(b.heard.map encH)[i]? = some (encH (hrd b i)):=by simp [hrd,hi]
 have k1:=compH_ans (ofr b i) s.m
 have hgg:(ofr b i).g=(hrd b i).g:=rfl
 have hmr:min s.w 1≤1:=Nat.min_le_right _ _
 have hq:=hQ [.row 6 [.t (rkT (ofr b i))] 1]
 simp only [hpQ,lpQ] at hq ⊢
 refine oB_yl (E:=tidyF (some [1,5,6]) E) rfl rfl rfl il52r0a_eq il52r0b_eq ?_
 by_cases q0:s.t.via < 0
 ·have d0:decide (s.t.via < 0)=true:=decide_eq_true q0
  rw [opS,if_pos (.inl q0)] at hq
  simp only [hgg] at hq
  generalize ofr b i=v at *
  simp only [List.cons_append,List.nil_append] at hq
  (repeat' first|simp only [il52r0a,il52r0b,go_sem,hE,hg,encH_cells,d0,get_last,set_last,hmr]|(with_reducible first|refine wD ?_|refine wT ?_|refine wM fun _=>?_|refine wL fun _=>?_)|((with_reducible first|refine wA ?_ ?_|refine wE ?_);rfl))
  all_goals exact hq
 ·have d0:decide (s.t.via < 0)=false:=decide_eq_false q0
  by_cases q1:lt6 (ofr b i) s.m < 0
  ·have d1:decide (lt6 (ofr b i) s.m < 0)=true:=decide_eq_true q1
   rw [opS,if_pos (.inr q1)] at hq
   simp only [hgg] at hq
   generalize ofr b i=v at *
   simp only [List.cons_append,List.nil_append] at hq
   (repeat' first|simp only [il52r0a,il52r0b,go_sem,hE,hg,encH_cells,d0,k1,d1,get_last,set_last,hmr]|(with_reducible first|refine wD ?_|refine wT ?_|refine wM fun _=>?_|refine wL fun _=>?_)|((with_reducible first|refine wA ?_ ?_|refine wE ?_);rfl))
   all_goals exact hq
  ·have d1:decide (lt6 (ofr b i) s.m < 0)=false:=decide_eq_false q1
   rw [opS,if_neg (by rintro (h|h); exact q0 h; exact q1 h)] at hq
   generalize ofr b i=v at *
   simp only [List.cons_append,List.nil_append] at hq
   (repeat' first|simp only [il52r0a,il52r0b,go_sem,hE,hg,encH_cells,d0,k1,d1,get_last,set_last,hmr]|(with_reducible first|refine wD ?_|refine wT ?_|refine wM fun _=>?_|refine wL fun _=>?_)|((with_reducible first|refine wA ?_ ?_|refine wE ?_);rfl))
   all_goals exact hq
theorem hpQ_frz (rf:Code × Code) (c1 c2 c3:Bool) (b:Br) (E:FEnv) (hE:E 5=.ref 1 1 0 0∧E 6=.ref 2 1 0 0) (x:T) (h1:E 1=.t x) (s:Os') (h:Heap) (q:Nat) (hq:4≤q):mapO (frzObj h (fromB q)) (hpQ rf c1 c2 c3 b E s)=some (hpQ rf c1 c2 c3 b E s):=by
 have f1:decide (q≤1)=false:=decide_eq_false (by omega)
 have f2:decide (q≤2)=false:=decide_eq_false (by omega)
 have h4:frzObj h (fromB q) (lpQ rf E)=some (lpQ rf E):=by
  rw [lpQ,frz_loop]
  simp only [go_sem,hE,h1,f1,f2]
 have hr:∀ (k mr:Nat) (x:T),frzObj h (fromB q) (.row k [.t x] mr)=some (.row k [.t x] mr):=by intro k mr x; simp [frzObj,avoidAll,avoid]
 simp only [hpQ,mapO,hr,h4]
theorem ofr_bound {b:Br} (h:okB b=true) (i:Nat) (hi:i < b.heard.length):-1000000000≤(ofr b i).c∧(ofr b i).c≤1000000000:=by
 have hl:=okB_len h
 simp only [okL] at hl
 have h2:=okB_at h (i:=i) (by omega)
 rw [okAt,decide_eq_true_eq] at h2
 have hc:=h2.2.2.1
 have hh:=h2.2.2.2
 simp only [ofr]
 cases hx:(hrd b i).is with
 | true=>have:=hh.1 hx; simp only [helloP] at this; omega
 | false=>have:=hh.2 hx; rw [this]; simp only [zH]; omega
theorem open_ok (c1 c2 c3:Bool) (b:Br) (hb:okB b=true):ans Try.prog pol 52 [brT c1 c2 c3 b]=some (.tup [sbT c1 c2 c3 b (opF b).t,I 0]):=by
 have k1:=chk_ok (c1:=c1) (c2:=c2) (c3:=c3) hb
 have hl:=okB_len hb
 simp only [okL] at hl
 have k2:=offers_ans c1 c2 c3 b (tp0 b)
 simp only [tp0] at k2
 refine ans_go 200 5 il52_eq (Nat.le_of_ble_eq_true rfl) ?_
 simp only [il52c]
 generalize hrf:rfOf Try.prog 52 0=rf
 (repeat' first|simp only [il52c,go_sem,k1,k2]|(with_reducible first|refine wD ?_|refine wT ?_|refine wM fun _=>?_|refine wL fun _=>?_)|((with_reducible first|refine wA ?_ ?_|refine wE ?_);rfl))
 have key:∀ E:FEnv,([.row 10 [.t zS] 0,.row 10 [.t (.agg [I b.p,I b.n,.sl c1 1 (b.ports.map I),.sl c2 1 (b.costs.map I),.sl c3 8 (b.heard.map encH),I b.p,I b.n,I 0,I (-1),I 0])] 1,.row 6 [.t (.agg [I 0,I 0,I 0,I 0,I 0,I 0])] 0,.loop 52 (lpEnv 50 (tidyF (some [1,5,6]) E)) [22,23] rf.1 rf.2 false none]:Heap)=hpQ rf c1 c2 c3 b E ⟨tp0 b,zH,0⟩:=fun E=>rfl
 rw [key]
 have h200:100 < 200:=by omega
 have h34:3 < 4:=by omega
 have hcl:b.costs.length=b.heard.length:=by omega
 have hhl:b.heard.length≤24:=by omega
 have hbd:=ofr_bound hb
 with_reducible refine sp_iter (fun s=>hpQ rf c1 c2 c3 b _ s) 4 (fun s=>rfl) (opS b) 4 200 3 b ?_ ?_ h34 c1 c2 c3 ⟨b.p,b.n,0,-1,0⟩ hhl hcl hbd ⟨tp0 b,zH,0⟩ _ h200 ?_
 ·intro s i X Q hi hld hQ
  exact open_yield rf hrf c1 c2 c3 b _ (by simp only [go_sem]) 3 200 s i hi X Q hQ
 ·intro s h q hq
  exact hpQ_frz rf c1 c2 c3 b _ (by simp only [go_sem]) (.ip (brC c1 c2 c3 b)) (by simp only [go_sem]) s h q hq
 ·intro x
  change rfEnd _ _ _ x (hpQ rf c1 c2 c3 b _ (opF b))
  generalize opF b=s
  have hmr:min s.w 1≤1:=Nat.min_le_right _ _
  simp only [hpQ,lpQ]
  have hr:∀ (h:Heap) (k mr:Nat) (x:T),frzObj h (fromB 3) (.row k [.t x] mr)=some (.row k [.t x] mr):=by intro h k mr x; simp [frzObj,avoidAll,avoid]
  (repeat' first|simp only [il52c,go_sem,hr,hmr]|(with_reducible first|refine wD ?_|refine wT ?_|refine wM fun _=>?_|refine wL fun _=>?_)|((with_reducible first|refine wA ?_ ?_|refine wE ?_);rfl))
end Go.Proofs.Ytbibdnlbpjnieaa
namespace Go.Proofs.Ytbibdnlbpjnieaa
open Go Go.Abs
def clm (b:Br) (t:Tp) (i:Nat):Hd:=⟨true,t.rp,t.rn,t.cost,b.p,b.n,prt b i,t.age⟩
def roleF (b:Br) (t:Tp) (i:Nat):Int:=if (i:Int)=t.via then 1 else if (hrd b i).is=false∨lt6 (clm b t i) (hrd b i) < 0 then 2 else 3
def sentF (b:Br) (t:Tp) (i:Nat):Hd:=if roleF b t i=2 then clm b t i else zH
section
variable (c1 c2 c3:Bool) (b:Br) (t:Tp)
theorem claim_ans (i:Nat) (hi:i < b.ports.length):ans Try.prog pol 76 [sbT c1 c2 c3 b t,I (i:Nat)]=some (rkT (clm b t i)):=by
 have hg:(b.ports.map I)[i]? = some (I (prt b i)):=by simp [prt,hi]
 refine ans_go 1 1 il76_eq (Nat.le_of_ble_eq_true rfl) ?_
 simp only [clm]
 generalize prt b i=P at *
 (repeat' first|simp only [il76c,go_sem,hg]|(with_reducible first|refine wD ?_|refine wT ?_|refine wM fun _=>?_|refine wL fun _=>?_)|((with_reducible first|refine wA ?_ ?_|refine wE ?_);rfl))
theorem role_ans (i:Nat) (hi:i < b.ports.length) (hh:b.heard.length=b.ports.length):ans Try.prog pol 54 [sbT c1 c2 c3 b t,I (i:Nat)]=some (I (roleF b t i)):=by
 have hg:(b.heard.map encH)[i]? = some (encH (hrd b i)):=by simp [hrd,show i < b.heard.length by omega]
 have k1:=claim_ans c1 c2 c3 b t i hi
 have k2:=compH_ans (clm b t i) (hrd b i)
 refine ans_go 1 1 il54_eq (Nat.le_of_ble_eq_true rfl) ?_
 by_cases q0:(i:Int)=t.via
 ·have d0:decide ((i:Int)=t.via)=true:=decide_eq_true q0
  rw [roleF,if_pos q0]
  (repeat' first|simp only [il54c,go_sem,hg,encH_cells,d0]|(with_reducible first|refine wD ?_|refine wT ?_|refine wM fun _=>?_|refine wL fun _=>?_)|((with_reducible first|refine wA ?_ ?_|refine wE ?_);rfl))
 have d0:decide ((i:Int)=t.via)=false:=decide_eq_false q0
 rw [roleF,if_neg q0]
 by_cases q1:(hrd b i).is=false
 ·rw [if_pos (.inl q1)]
  (repeat' first|simp only [il54c,go_sem,hg,encH_cells,d0,q1]|(with_reducible first|refine wD ?_|refine wT ?_|refine wM fun _=>?_|refine wL fun _=>?_)|((with_reducible first|refine wA ?_ ?_|refine wE ?_);rfl))
 have q1':(hrd b i).is=true:=by simpa using q1
 by_cases q2:lt6 (clm b t i) (hrd b i) < 0
 ·have d2:decide (lt6 (clm b t i) (hrd b i) < 0)=true:=decide_eq_true q2
  rw [if_pos (.inr q2)]
  (repeat' first|simp only [il54c,go_sem,hg,encH_cells,d0,q1',k1,k2,d2]|(with_reducible first|refine wD ?_|refine wT ?_|refine wM fun _=>?_|refine wL fun _=>?_)|((with_reducible first|refine wA ?_ ?_|refine wE ?_);rfl))
 ·have d2:decide (lt6 (clm b t i) (hrd b i) < 0)=false:=decide_eq_false q2
  rw [if_neg (by rintro (h|h); exact q1 h; exact q2 h)]
  (repeat' first|simp only [il54c,go_sem,hg,encH_cells,d0,q1',k1,k2,d2]|(with_reducible first|refine wD ?_|refine wT ?_|refine wM fun _=>?_|refine wL fun _=>?_)|((with_reducible first|refine wA ?_ ?_|refine wE ?_);rfl))
theorem sent_ans (i:Nat) (hi:i < b.ports.length) (hh:b.heard.length=b.ports.length):ans Try.prog pol 89 [sbT c1 c2 c3 b t,I (i:Nat)]=some (hdT (sentF b t i)):=by
 have k1:=claim_ans c1 c2 c3 b t i hi
 have k2:=role_ans c1 c2 c3 b t i hi hh
 refine ans_go 1 1 il89_eq (Nat.le_of_ble_eq_true rfl) ?_
 by_cases q:roleF b t i=2
 ·have d1:decide (roleF b t i=2)=true:=decide_eq_true q
  rw [sentF,if_pos q]
  simp only [clm] at k1 ⊢
  (repeat' first|simp only [il89c,go_sem,k1,k2,d1]|(with_reducible first|refine wD ?_|refine wT ?_|refine wM fun _=>?_|refine wL fun _=>?_)|((with_reducible first|refine wA ?_ ?_|refine wE ?_);rfl))
 ·have d1:decide (roleF b t i=2)=false:=decide_eq_false q
  rw [sentF,if_neg q]
  simp only [zH]
  (repeat' first|simp only [il89c,go_sem,k1,k2,d1]|(with_reducible first|refine wD ?_|refine wT ?_|refine wM fun _=>?_|refine wL fun _=>?_)|((with_reducible first|refine wA ?_ ?_|refine wE ?_);rfl))
theorem eachI_ans (hl:b.ports.length≤1000) (hh:b.heard.length=b.ports.length):ans Try.prog pol 53 [sbT c1 c2 c3 b t,.fn (.func 54) [sbT c1 c2 c3 b t] []]=some (.sl true 1 (((List.range b.ports.length).map (roleF b t)).map I)):=by
 have hroom:8*b.ports.length≤roomB:=by rw [Nat.mul_comm]; exact ap_room (by omega) (by omega)
 have hbig:b.ports.length≤9223372036854775807:=by omega
 refine ans_go 2000 1 il53_eq (Nat.le_of_ble_eq_true rfl) ?_
 (repeat' first|simp only [il53c,go_sem,hroom,hbig]|(with_reducible first|refine wD ?_|refine wT ?_|refine wM fun _=>?_|refine wL fun _=>?_)|((with_reducible first|refine wA ?_ ?_|refine wE ?_);rfl))
 refine loop_upto b.ports.length (step:=fun i (_:Unit)=>Ctl.go ()) (fin:=id)
  (St:=fun i _ e h=>(e 1=.t (.fn (.func 54) [sbT c1 c2 c3 b t] [])∧e 5=.ms 0 b.ports.length 0 b.ports.length 1 true∧e 13=.t (I (b.ports.length:Nat))∧e 14=.t (I (i:Nat)))∧∃ mr,mr≤b.ports.length∧h=[.row 1 (((fillL (roleF b t) (0:Int) b.ports.length i).map I).map .t) mr])
  (Ex:=fun _ x e h=>e 5=.ms 0 b.ports.length 0 b.ports.length 1 true∧x=.exit 0∧∃ mr,mr≤b.ports.length∧h=[.row 1 ((((List.range b.ports.length).map (roleF b t)).map I).map .t) mr]) (s:=()) (by omega) ?_ ?_ (by omega) ?_ ?_
 ·intro i _ e h Y R hi hlt hw ⟨hs,mr,hmr,hh'⟩ hk
  subst hh'
  simp only [ctlK_go] at hk
  have k1:=role_ans c1 c2 c3 b t i hi hh
  have hset:=fillL_set (f:=roleF b t) (z:=(0:Int)) hi rfl
  have hlen:=fillL_len (roleF b t) (0:Int) (Nat.le_of_lt hi)
  generalize hL:fillL (roleF b t) (0:Int) b.ports.length i=L at *
  obtain ⟨old,hold⟩:∃ w,L[i]? = some w:=⟨L[i]'(by omega),by simp⟩
  have hget:(List.map AV.t (List.map I L))[i]? = some (.t (I old)):=map_get (enc:=I) hold
  have hst':=map_set (enc:=I) (l:=L) (i:=i) (x:=roleF b t i)
  rw [hset] at hst'
  generalize hB:roleF b t i=v at *
  (repeat' first|simp only [il53l0_go,il53l0b,go_sem,hs,hlt,k1,hget,hlen,hmr,hi,hw,hst',frz_rowH]|(with_reducible first|refine wD ?_|refine wT ?_|refine wM fun _=>?_|refine wL fun _=>?_)|((with_reducible first|refine wA ?_ ?_|refine wE ?_);rfl))
  all_goals (refine hk _ _ ⟨?_,b.ports.length,Nat.le_refl _,?_⟩ <;> simp only [go_sem,hs,hw])
 ·intro _ e h Y R hlt ⟨hs,mr,hmr,hh'⟩ hk
  subst hh'
  (repeat' first|simp only [il53l0_go,il53l0b,go_sem,hs,hlt,frz_rowH]|(with_reducible first|refine wD ?_|refine wT ?_|refine wM fun _=>?_|refine wL fun _=>?_)|((with_reducible first|refine wA ?_ ?_|refine wE ?_);rfl))
  all_goals (refine hk _ _ _ ⟨?_,rfl,mr,hmr,?_⟩ <;> (try simp only [go_sem,hs]))
  all_goals simp only [fillL_all,id]
 ·refine ⟨?_,0,by omega,?_⟩
  ·simp only [go_sem]
  ·rw [fillL_zero]; simp
 ·intro x e h ⟨h1,h2,mr,hmr,h3⟩
  subst h2 h3
  have hll:((List.range b.ports.length).map (roleF b t)).length=b.ports.length:=by simp
  generalize (List.range b.ports.length).map (roleF b t)=L at *
  (repeat' first|simp only [il53c,go_sem,h1,hll,hmr]|(with_reducible first|refine wD ?_|refine wT ?_|refine wM fun _=>?_|refine wL fun _=>?_)|((with_reducible first|refine wA ?_ ?_|refine wE ?_);rfl))
theorem eachH_ans (hl:b.ports.length≤1000) (hh:b.heard.length=b.ports.length):ans Try.prog pol 88 [sbT c1 c2 c3 b t,.fn (.func 89) [sbT c1 c2 c3 b t] []]=some (.sl true 8 (((List.range b.ports.length).map (sentF b t)).map encH)):=by
 have hroom:64*b.ports.length≤roomB:=by rw [Nat.mul_comm]; exact ap_room (by omega) (by omega)
 have hbig:b.ports.length≤9223372036854775807:=by omega
 refine ans_go 2000 1 il88_eq (Nat.le_of_ble_eq_true rfl) ?_
 (repeat' first|simp only [il88c,go_sem,hroom,hbig]|(with_reducible first|refine wD ?_|refine wT ?_|refine wM fun _=>?_|refine wL fun _=>?_)|((with_reducible first|refine wA ?_ ?_|refine wE ?_);rfl))
 refine loop_upto b.ports.length (step:=fun i (_:Unit)=>Ctl.go ()) (fin:=id)
  (St:=fun i _ e h=>(e 1=.t (.fn (.func 89) [sbT c1 c2 c3 b t] [])∧e 5=.ms 0 b.ports.length 0 b.ports.length 8 true∧e 13=.t (I (b.ports.length:Nat))∧e 14=.t (I (i:Nat)))∧∃ mr,mr≤b.ports.length∧h=[.row 8 (((fillL (sentF b t) zH b.ports.length i).map encH).map .t) mr])
  (Ex:=fun _ x e h=>e 5=.ms 0 b.ports.length 0 b.ports.length 8 true∧x=.exit 0∧∃ mr,mr≤b.ports.length∧h=[.row 8 ((((List.range b.ports.length).map (sentF b t)).map encH).map .t) mr]) (s:=()) (by omega) ?_ ?_ (by omega) ?_ ?_
 ·intro i _ e h Y R hi hlt hw ⟨hs,mr,hmr,hh'⟩ hk
  subst hh'
  simp only [ctlK_go] at hk
  have k1:=sent_ans c1 c2 c3 b t i hi hh
  have hset:=fillL_set (f:=sentF b t) (z:=zH) hi rfl
  have hlen:=fillL_len (sentF b t) zH (Nat.le_of_lt hi)
  generalize hL:fillL (sentF b t) zH b.ports.length i=L at *
  obtain ⟨old,hold⟩:∃ w,L[i]? = some w:=⟨L[i]'(by omega),by simp⟩
  have hget:(List.map AV.t (List.map encH L))[i]? = some (.t (hdT old)):=map_get (enc:=encH) hold
  have hst':=map_set (enc:=encH) (l:=L) (i:=i) (x:=sentF b t i)
  rw [hset] at hst'
  simp only [encH] at hst'
  generalize hB:sentF b t i=v at *
  (repeat' first|simp only [il88l0_go,il88l0b,go_sem,hs,hlt,k1,hget,hlen,hmr,hi,hw,hst',frz_rowH]|(with_reducible first|refine wD ?_|refine wT ?_|refine wM fun _=>?_|refine wL fun _=>?_)|((with_reducible first|refine wA ?_ ?_|refine wE ?_);rfl))
  all_goals (refine hk _ _ ⟨?_,b.ports.length,Nat.le_refl _,?_⟩ <;> simp only [go_sem,hs,hw])
 ·intro _ e h Y R hlt ⟨hs,mr,hmr,hh'⟩ hk
  subst hh'
  (repeat' first|simp only [il88l0_go,il88l0b,go_sem,hs,hlt,frz_rowH]|(with_reducible first|refine wD ?_|refine wT ?_|refine wM fun _=>?_|refine wL fun _=>?_)|((with_reducible first|refine wA ?_ ?_|refine wE ?_);rfl))
  all_goals (refine hk _ _ _ ⟨?_,rfl,mr,hmr,?_⟩ <;> (try simp only [go_sem,hs]))
  all_goals simp only [fillL_all,id]
 ·refine ⟨?_,0,by omega,?_⟩
  ·simp only [go_sem]
  ·rw [fillL_zero]; simp [encH,zH]
 ·intro x e h ⟨h1,h2,mr,hmr,h3⟩
  subst h2 h3
  have hll:((List.range b.ports.length).map (sentF b t)).length=b.ports.length:=by simp
  generalize (List.range b.ports.length).map (sentF b t)=L at *
  (repeat' first|simp only [il88c,go_sem,h1,hll,hmr]|(with_reducible first|refine wD ?_|refine wT ?_|refine wM fun _=>?_|refine wL fun _=>?_)|((with_reducible first|refine wA ?_ ?_|refine wE ?_);rfl))
theorem Roles_ok (hb:okB b=true):ans Try.prog pol 27 [brT c1 c2 c3 b]=some (.tup [.sl true 1 (((List.range b.ports.length).map (roleF b (opF b).t)).map I),I 0]):=by
 have k1:=open_ok c1 c2 c3 b hb
 have hl:=okB_len hb
 simp only [okL] at hl
 generalize (opF b).t=t at *
 have k2:=eachI_ans c1 c2 c3 b t (by omega) (by omega)
 generalize (List.range b.ports.length).map (roleF b t)=L at *
 refine ans_go 1 1 il27_eq (Nat.le_of_ble_eq_true rfl) ?_
 (repeat' first|simp only [il27c,go_sem,k1,k2]|(with_reducible first|refine wD ?_|refine wT ?_|refine wM fun _=>?_|refine wL fun _=>?_)|((with_reducible first|refine wA ?_ ?_|refine wE ?_);rfl))
theorem Send_ok (hb:okB b=true):ans Try.prog pol 64 [brT c1 c2 c3 b]=some (.tup [.sl true 8 (((List.range b.ports.length).map (sentF b (opF b).t)).map encH),I 0]):=by
 have k1:=open_ok c1 c2 c3 b hb
 have hl:=okB_len hb
 simp only [okL] at hl
 generalize (opF b).t=t at *
 have k2:=eachH_ans c1 c2 c3 b t (by omega) (by omega)
 generalize (List.range b.ports.length).map (sentF b t)=L at *
 refine ans_go 1 1 il64_eq (Nat.le_of_ble_eq_true rfl) ?_
 (repeat' first|simp only [il64c,go_sem,k1,k2]|(with_reducible first|refine wD ?_|refine wT ?_|refine wM fun _=>?_|refine wL fun _=>?_)|((with_reducible first|refine wA ?_ ?_|refine wE ?_);rfl))
end
end Go.Proofs.Ytbibdnlbpjnieaa
