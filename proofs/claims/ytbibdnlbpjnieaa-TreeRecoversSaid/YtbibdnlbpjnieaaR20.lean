/- Part 20 of the proof of TreeRecovers. -/
import Derived.Test.YtbibdnlbpjnieaaR19
set_option linter.all false
set_option maxRecDepth 100000
set_option maxHeartbeats 4000000
namespace Go.Proofs.Ytbibdnlbpjnieaa
def setF {α:Type} (f:Nat→α) (i:Nat) (x:α):Nat→α:=fun j=>if j=i then x else f j
theorem setF_same {α:Type} {f:Nat→α} {i:Nat} {x:α}:setF f i x i=x:=by simp [setF]
theorem setF_ne {α:Type} {f:Nat→α} {i j:Nat} {x:α} (h:j≠i):setF f i x j=f j:=by simp [setF,h]
structure Ed where
 a:Nat
 b:Nat
 w:Int
 deriving DecidableEq
def iter {σ:Type} (f:σ→σ):Nat→σ→σ
 | 0,s=>s
 | n+1,s=>f (iter f n s)
theorem iter_fix {σ:Type} {f:σ→σ} {s:σ} {k:Nat} (h:f (iter f k s)=iter f k s):∀ j,iter f (k+j) s=iter f k s:=by
 intro j
 induction j with
 | zero=>rfl
 | succ j ih =>
  show f (iter f (k+j) s)=_
  rw [ih,h]
def cnt (N:Nat) (S:Nat→Bool):Nat:=((List.range N).filter S).length
theorem cnt_le (N:Nat) (S:Nat→Bool):cnt N S≤N:=by
 have:=List.length_filter_le S (List.range N)
 simpa [cnt] using this
theorem cnt_succ (N:Nat) (S:Nat→Bool):cnt (N+1) S=cnt N S+(if S N then 1 else 0):=by
 simp only [cnt,List.range_succ,List.filter_append,List.length_append]
 congr 1
 cases h:S N <;> simp [h]
theorem cnt_mono {N:Nat} {S S':Nat→Bool} (h:∀ i,i < N→S i=true→S' i=true):cnt N S≤cnt N S':=by
 induction N with
 | zero=>simp [cnt]
 | succ N ih =>
  have h1:=ih (fun i hi=>h i (by omega))
  rw [cnt_succ,cnt_succ]
  have h2:=h N (by omega)
  cases hS:S N with
  | false=>simp; omega
  | true=>simp [h2 hS]; omega
theorem cnt_lt {N:Nat} {S S':Nat→Bool} (h:∀ i,i < N→S i=true→S' i=true) {j:Nat} (hj:j < N) (h1:S j=false) (h2:S' j=true):cnt N S+1≤cnt N S':=by
 induction N with
 | zero=>omega
 | succ N ih =>
  rw [cnt_succ,cnt_succ]
  by_cases hjn:j=N
  ·subst hjn
   have:=cnt_mono (N:=j) (S:=S) (S':=S') (fun i hi=>h i (by omega))
   simp [h1,h2]; omega
  ·have:=ih (fun i hi=>h i (by omega)) (by omega)
   have h3:=h N (by omega)
   cases hS:S N with
   | false=>simp; omega
   | true=>simp [h3 hS]; omega
def bpE (S:Nat→Bool) (e:Ed):Nat→Bool:=setF S e.a (S e.a || S e.b)
def sprB (E:List Ed) (S:Nat→Bool):Nat→Bool:=E.foldl bpE S
theorem bpE_mono {S:Nat→Bool} {e:Ed} {i:Nat} (h:S i=true):bpE S e i=true:=by
 unfold bpE setF
 split
 ·rename_i h'; subst h'; simp [h]
 ·exact h
theorem sprB_mono:∀ (E:List Ed) {S:Nat→Bool} {i:Nat},S i=true→sprB E S i=true:=by
 intro E
 induction E with
 | nil=>intro S i h; exact h
 | cons e E ih=>intro S i h; exact ih (bpE_mono h)
theorem sprB_edge:∀ (E:List Ed) {S:Nat→Bool} {e:Ed},e∈E→S e.b=true→sprB E S e.a=true:=by
 intro E
 induction E with
 | nil=>intro S e h; cases h
 | cons e' E ih =>
  intro S e h hb
  cases h with
  | head=>exact sprB_mono E (by unfold bpE; rw [setF_same,hb,Bool.or_true])
  | tail _ h=>exact ih h (bpE_mono hb)
theorem sprB_out {N:Nat}:∀ (E:List Ed) (hE:∀ e∈E,e.a < N) {S:Nat→Bool} {i:Nat},N≤i→sprB E S i=S i:=by
 intro E
 induction E with
 | nil=>intro _ S i h; rfl
 | cons e E ih =>
  intro hE S i h
  have h1:=hE e (by simp)
  have:=ih (fun e he=>hE e (by simp [he])) (S:=bpE S e) h
  show sprB E (bpE S e) i=_
  rw [this]
  unfold bpE
  rw [setF_ne (by omega)]
theorem stab {N:Nat} {E:List Ed} (hE:∀ e∈E,e.a < N) (S:Nat→Bool):sprB E (iter (sprB E) N S)=iter (sprB E) N S:=by
 have step:∀ k,(sprB E (iter (sprB E) k S)=iter (sprB E) k S)∨k+1≤cnt N (iter (sprB E) (k+1) S):=by
  intro k
  induction k with
  | zero =>
   by_cases h:sprB E S=S
   ·exact .inl h
   ·right
    have:∃ j,sprB E S j≠S j:=Classical.byContradiction fun hn=>h (funext fun j=>Classical.byContradiction fun hj=>hn ⟨j,hj⟩)
    obtain ⟨j,hj⟩:=this
    have hjN:j < N:=Nat.lt_of_not_le fun hle=>hj (sprB_out E hE hle)
    have hf:S j=false:=by
     cases hS:S j with
     | false=>rfl
     | true=>exact absurd (by rw [sprB_mono E hS,hS]) hj
    have ht:sprB E S j=true:=by
     cases hS:sprB E S j with
     | true=>rfl
     | false=>exact absurd (by rw [hS,hf]) hj
    have:=cnt_lt (N:=N) (S:=S) (S':=sprB E S) (fun i _ hi=>sprB_mono E hi) hjN hf ht
    show 0+1≤cnt N (sprB E S)
    omega
  | succ k ih =>
   rcases ih with h|h
   ·left
    show sprB E (sprB E (iter (sprB E) k S))=sprB E (iter (sprB E) k S)
    rw [h,h]
   ·by_cases hs:sprB E (iter (sprB E) (k+1) S)=iter (sprB E) (k+1) S
    ·exact .inl hs
    ·right
     generalize hT:iter (sprB E) (k+1) S=T at *
     have:∃ j,sprB E T j≠T j:=Classical.byContradiction fun hn=>hs (funext fun j=>Classical.byContradiction fun hj=>hn ⟨j,hj⟩)
     obtain ⟨j,hj⟩:=this
     have hjN:j < N:=Nat.lt_of_not_le fun hle=>hj (sprB_out E hE hle)
     have hf:T j=false:=by
      cases hS:T j with
      | false=>rfl
      | true=>exact absurd (by rw [sprB_mono E hS,hS]) hj
     have ht:sprB E T j=true:=by
      cases hS:sprB E T j with
      | true=>rfl
      | false=>exact absurd (by rw [hS,hf]) hj
     have:=cnt_lt (N:=N) (S:=T) (S':=sprB E T) (fun i _ hi=>sprB_mono E hi) hjN hf ht
     show k+1+1≤cnt N (sprB E (iter (sprB E) (k+1) S))
     rw [hT]
     omega
 rcases step N with h|h
 ·exact h
 ·have:=cnt_le N (iter (sprB E) (N+1) S); omega
inductive Cn (E:List Ed):Nat→Nat→Prop
 | refl (i:Nat):Cn E i i
 | step {e:Ed} {k:Nat}:e∈E→Cn E e.b k→Cn E e.a k
theorem Cn.trans {E:List Ed} {i j k:Nat} (h1:Cn E i j) (h2:Cn E j k):Cn E i k:=by
 induction h1 with
 | refl=>exact h2
 | step he _ ih=>exact .step he (ih h2)
def symE (E:List Ed):Prop:=∀ e∈E,(⟨e.b,e.a,e.w⟩:Ed)∈E
theorem Cn.symm {E:List Ed} (hs:symE E) {i j:Nat} (h:Cn E i j):Cn E j i:=by
 induction h with
 | refl=>exact .refl _
 | step he _ ih=>exact ih.trans (.step (e:=⟨_,_,_⟩) (hs _ he) (.refl _))
theorem Cn.const {E:List Ed} {α:Type} {f:Nat→α} (hf:∀ e∈E,f e.a=f e.b) {i j:Nat} (h:Cn E i j):f i=f j:=by
 induction h with
 | refl=>rfl
 | step he _ ih=>rw [hf _ he,ih]
theorem Cn.cross {E:List Ed} {P:Nat→Prop} {i j:Nat} (h:Cn E i j) (hi:¬ P i) (hj:P j):∃ e∈E,¬ P e.a∧P e.b:=by
 induction h with
 | refl=>exact absurd hj hi
 | step he _ ih =>
  rename_i e k _
  by_cases hb:P e.b
  ·exact ⟨e,he,hi,hb⟩
  ·exact ih hb hj
theorem reach_iff {N:Nat} {E:List Ed} (hE:∀ e∈E,e.a < N) (s i:Nat):iter (sprB E) N (fun j=>decide (j=s)) i=true↔Cn E i s:=by
 constructor
 ·have key:∀ (E':List Ed),(∀ e∈E',e∈E)→∀ S:Nat→Bool,(∀ i,S i=true→Cn E i s)→∀ i,sprB E' S i=true→Cn E i s:=by
   intro E'
   induction E' with
   | nil=>intro _ S h; exact h
   | cons e E' ih =>
    intro hm S h
    refine ih (fun e he=>hm e (by simp [he])) (bpE S e) ?_
    intro i hi
    unfold bpE setF at hi
    split at hi
    ·rename_i h'
     subst h'
     rw [Bool.or_eq_true] at hi
     rcases hi with hi|hi
     ·exact h _ hi
     ·exact .step (hm e (by simp)) (h _ hi)
    ·exact h _ hi
  have:∀ n i,iter (sprB E) n (fun j=>decide (j=s)) i=true→Cn E i s:=by
   intro n
   induction n with
   | zero=>intro i hi; simp only [iter,decide_eq_true_eq] at hi; subst hi; exact .refl _
   | succ n ih=>exact key E (fun _ h=>h) _ ih
  exact this N i
 ·intro h
  have hmono:∀ n,iter (sprB E) n (fun j=>decide (j=s)) s=true:=by
   intro n
   induction n with
   | zero=>simp [iter]
   | succ n ih=>exact sprB_mono E ih
  have hst:=stab hE (fun j=>decide (j=s))
  have hcl:∀ e∈E,iter (sprB E) N (fun j=>decide (j=s)) e.b=true→iter (sprB E) N (fun j=>decide (j=s)) e.a=true:=by
   intro e he hb
   have:=sprB_edge E he hb
   rwa [hst] at this
  have key:∀ {i j:Nat},Cn E i j→iter (sprB E) N (fun j=>decide (j=s)) j=true→iter (sprB E) N (fun j=>decide (j=s)) i=true:=by
   intro i j h
   induction h with
   | refl=>exact fun h=>h
   | step he _ ih=>exact fun h=>hcl _ he (ih h)
  exact key h (hmono N)
def pull (κ:Nat→Int) (f:Nat→Nat) (e:Ed):Nat→Nat:=setF f e.a (if κ (f e.b) < κ (f e.a) then f e.b else f e.a)
def rndR (κ:Nat→Int) (E:List Ed) (f:Nat→Nat):Nat→Nat:=E.foldl (pull κ) f
theorem pull_thr (κ:Nat→Int) (f:Nat→Nat) (e:Ed) (x:Int):(fun i=>decide (κ (pull κ f e i)≤x))=bpE (fun i=>decide (κ (f i)≤x)) e:=by
 funext i
 unfold pull bpE setF
 by_cases h:i=e.a
 ·subst h
  simp only [if_true]
  split <;> (rw [Bool.eq_iff_iff]; simp; omega)
 ·simp only [if_neg h]
theorem rndR_thr (κ:Nat→Int) (x:Int):∀ (E:List Ed) (f:Nat→Nat),(fun i=>decide (κ (rndR κ E f i)≤x))=sprB E (fun i=>decide (κ (f i)≤x)):=by
 intro E
 induction E with
 | nil=>intro f; rfl
 | cons e E ih =>
  intro f
  show (fun i=>decide (κ (rndR κ E (pull κ f e) i)≤x))=sprB E (bpE _ e)
  rw [ih,pull_thr]
theorem iterR_thr (κ:Nat→Int) (x:Int) (E:List Ed) (f:Nat→Nat):∀ n,(fun i=>decide (κ (iter (rndR κ E) n f i)≤x))=iter (sprB E) n (fun i=>decide (κ (f i)≤x)):=by
 intro n
 induction n with
 | zero=>rfl
 | succ n ih =>
  show (fun i=>decide (κ (rndR κ E (iter (rndR κ E) n f) i)≤x))=sprB E (iter (sprB E) n _)
  rw [rndR_thr,ih]
def roots (κ:Nat→Int) (E:List Ed) (N:Nat):Nat→Nat:=iter (rndR κ E) N id
theorem roots_le {κ:Nat→Int} {E:List Ed} {N:Nat} (i:Nat):κ (roots κ E N i)≤κ i:=by
 have h:=congrFun (iterR_thr κ (κ i) E id N) i
 have h0:∀ n,iter (sprB E) n (fun j=>decide (κ (id j)≤κ i)) i=true:=by
  intro n
  induction n with
  | zero=>simp [iter]
  | succ n ih=>exact sprB_mono E ih
 rw [h0] at h
 exact of_decide_eq_true h
theorem roots_edge {κ:Nat→Int} {E:List Ed} {N:Nat} (hE:∀ e∈E,e.a < N) {e:Ed} (he:e∈E):κ (roots κ E N e.a)≤κ (roots κ E N e.b):=by
 have h:=iterR_thr κ (κ (roots κ E N e.b)) E id N
 have hst:=stab hE (fun i=>decide (κ (id i)≤κ (roots κ E N e.b)))
 rw [← h] at hst
 have hb:(fun i=>decide (κ (iter (rndR κ E) N id i)≤κ (roots κ E N e.b))) e.b=true:=by simp [roots]
 have:=sprB_edge E (S:=fun i=>decide (κ (iter (rndR κ E) N id i)≤κ (roots κ E N e.b))) he hb
 rw [hst] at this
 exact of_decide_eq_true this
theorem roots_cn {κ:Nat→Int} {E:List Ed} {N:Nat} (i:Nat):Cn E i (roots κ E N i):=by
 have key:∀ (E':List Ed),(∀ e∈E',e∈E)→∀ f:Nat→Nat,(∀ i,Cn E i (f i))→∀ i,Cn E i (rndR κ E' f i):=by
  intro E'
  induction E' with
  | nil=>intro _ f h; exact h
  | cons e E' ih =>
   intro hm f h
   refine ih (fun e he=>hm e (by simp [he])) (pull κ f e) ?_
   intro i
   unfold pull setF
   split
   ·rename_i h'
    subst h'
    split
    ·exact .step (hm e (by simp)) (h _)
    ·exact h _
   ·exact h _
 have:∀ n i,Cn E i (iter (rndR κ E) n id i):=by
  intro n
  induction n with
  | zero=>intro i; exact .refl _
  | succ n ih=>exact key E (fun _ h=>h) _ ih
 exact this N i
theorem Cn.lt {E:List Ed} {N:Nat} (hE:∀ e∈E,e.a < N∧e.b < N) {i j:Nat} (h:Cn E i j) (hi:i < N):j < N:=by
 induction h with
 | refl=>exact hi
 | step he _ ih=>exact ih (hE _ he).2
theorem roots_same {κ:Nat→Int} {E:List Ed} {N:Nat} (hE:∀ e∈E,e.a < N∧e.b < N) (hs:symE E) (hκ:∀ i j,i < N→j < N→κ i=κ j→i=j):∀ e∈E,roots κ E N e.a=roots κ E N e.b:=by
 intro e he
 have h1:=roots_edge (κ:=κ) (fun e he=>(hE e he).1) he
 have h2:=roots_edge (κ:=κ) (e:=⟨e.b,e.a,e.w⟩) (fun e he=>(hE e he).1) (hs e he)
 have:=(roots_cn (κ:=κ) (E:=E) (N:=N) e.a).lt hE (hE e he).1
 have:=(roots_cn (κ:=κ) (E:=E) (N:=N) e.b).lt hE (hE e he).2
 exact hκ _ _ (by assumption) (by assumption) (by simp only at h1 h2; omega)
def rlx (d:Nat→Int) (e:Ed):Nat→Int:=setF d e.a (min (d e.a) (d e.b+e.w))
def rndD (E:List Ed) (d:Nat→Int):Nat→Int:=E.foldl rlx d
theorem rlx_le {d:Nat→Int} {e:Ed} (i:Nat):rlx d e i≤d i:=by
 unfold rlx setF
 split
 ·rename_i h; subst h; omega
 ·omega
theorem rndD_le:∀ (E:List Ed) {d:Nat→Int} (i:Nat),rndD E d i≤d i:=by
 intro E
 induction E with
 | nil=>intro d i; exact Int.le_refl _
 | cons e E ih=>intro d i; exact Int.le_trans (ih i) (rlx_le i)
theorem rndD_edge:∀ (E:List Ed) {d:Nat→Int} {e:Ed},e∈E→rndD E d e.a≤d e.b+e.w:=by
 intro E
 induction E with
 | nil=>intro d e h; cases h
 | cons e' E ih =>
  intro d e h
  cases h with
  | head=>refine Int.le_trans (rndD_le E e'.a) ?_; unfold rlx; rw [setF_same]; omega
  | tail _ h=>refine Int.le_trans (ih h) ?_; have:=rlx_le (d:=d) (e:=e') e.b; omega
theorem rndD_inv {E0:List Ed} {d0:Nat→Int}:∀ (E:List Ed),(∀ e∈E,e∈E0∧e.a≠e.b)→∀ {d:Nat→Int},(∀ i,d i=d0 i∨∃ e∈E0,e.a=i∧d e.b+e.w≤d i)→∀ i,rndD E d i=d0 i∨∃ e∈E0,e.a=i∧rndD E d e.b+e.w≤rndD E d i:=by
 intro E
 induction E with
 | nil=>intro _ d h; exact h
 | cons e' E ih =>
  intro hm d h
  refine ih (fun e he=>hm e (by simp [he])) (d:=rlx d e') ?_
  intro i
  have hle:=rlx_le (d:=d) (e:=e')
  by_cases hi:i=e'.a
  ·subst hi
   have hv:rlx d e' e'.a=min (d e'.a) (d e'.b+e'.w):=by unfold rlx; rw [setF_same]
   by_cases hm':d e'.b+e'.w < d e'.a
   ·right
    refine ⟨e',(hm e' (by simp)).1,rfl,?_⟩
    have:=hle e'.b
    omega
   ·rcases h e'.a with h1|⟨e,he,h1,h2⟩
    ·left; omega
    ·right; refine ⟨e,he,h1,?_⟩; have:=hle e.b; omega
  ·have hv:rlx d e' i=d i:=by unfold rlx; rw [setF_ne hi]
   rcases h i with h1|⟨e,he,h1,h2⟩
   ·left; omega
   ·right; refine ⟨e,he,h1,?_⟩; have:=hle e.b; omega
theorem rndD_out {N:Nat}:∀ (E:List Ed) (hE:∀ e∈E,e.a < N) {d:Nat→Int} {i:Nat},N≤i→rndD E d i=d i:=by
 intro E
 induction E with
 | nil=>intro _ d i h; rfl
 | cons e E ih =>
  intro hE d i h
  have h1:=hE e (by simp)
  have:=ih (fun e he=>hE e (by simp [he])) (d:=rlx d e) h
  show rndD E (rlx d e) i=_
  rw [this]
  unfold rlx
  rw [setF_ne (by omega)]
theorem rndD_nn:∀ (E:List Ed),(∀ e∈E,1≤e.w)→∀ {d:Nat→Int},(∀ i,0≤d i)→∀ i,0≤rndD E d i:=by
 intro E
 induction E with
 | nil=>intro _ d h; exact h
 | cons e E ih =>
  intro hw d h
  refine ih (fun e he=>hw e (by simp [he])) ?_
  intro i
  unfold rlx setF
  have h1:=hw e (by simp)
  have h2:=h e.b
  have h3:=h e.a
  split
  ·omega
  ·exact h i
def sumN (N:Nat) (d:Nat→Int):Nat:=((List.range N).map fun i=>(d i).toNat).foldl (· + ·) 0
theorem sumN_succ (N:Nat) (d:Nat→Int):sumN (N+1) d=sumN N d+(d N).toNat:=by simp [sumN,List.range_succ]
theorem sumN_le {N:Nat} {d d':Nat→Int} (h:∀ i,d i≤d' i):sumN N d≤sumN N d':=by
 induction N with
 | zero=>simp [sumN]
 | succ N ih=>rw [sumN_succ,sumN_succ]; have:=h N; omega
theorem sumN_lt {N:Nat} {d d':Nat→Int} (h:∀ i,d i≤d' i) {j:Nat} (hj:j < N) (h0:0≤d j) (hlt:d j < d' j):sumN N d < sumN N d':=by
 induction N with
 | zero=>omega
 | succ N ih =>
  rw [sumN_succ,sumN_succ]
  by_cases hjn:j=N
  ·subst hjn
   have:=sumN_le (N:=j) h
   omega
  ·have:=ih (by omega)
   have:=h N
   omega
section
variable {N:Nat} {E:List Ed} (hE:∀ e∈E,e.a < N∧e.b < N∧e.a≠e.b∧1≤e.w) {d0:Nat→Int} (h0:∀ i,0≤d0 i)
include hE h0
theorem iterD_nn:∀ n i,0≤iter (rndD E) n d0 i:=by
 intro n
 induction n with
 | zero=>exact h0
 | succ n ih=>exact rndD_nn E (fun e he=>(hE e he).2.2.2) ih
theorem limit:∃ k,rndD E (iter (rndD E) k d0)=iter (rndD E) k d0:=by
 have key:∀ (m k:Nat),sumN N (iter (rndD E) k d0)≤m→∃ k,rndD E (iter (rndD E) k d0)=iter (rndD E) k d0:=by
  intro m
  induction m with
  | zero =>
   intro k hk
   refine ⟨k,funext fun j=>Classical.byContradiction fun hj=>?_⟩
   have hjN:j < N:=Nat.lt_of_not_le fun hle=>hj (rndD_out E (fun e he=>(hE e he).1) hle)
   have:=sumN_lt (N:=N) (fun i=>rndD_le E (d:=iter (rndD E) k d0) i) hjN (rndD_nn E (fun e he=>(hE e he).2.2.2) (iterD_nn hE h0 k) j) (by have:=rndD_le E (d:=iter (rndD E) k d0) j; omega)
   omega
  | succ m ih =>
   intro k hk
   by_cases hf:rndD E (iter (rndD E) k d0)=iter (rndD E) k d0
   ·exact ⟨k,hf⟩
   ·have:∃ j,rndD E (iter (rndD E) k d0) j≠iter (rndD E) k d0 j:=Classical.byContradiction fun hn=>hf (funext fun j=>Classical.byContradiction fun hj=>hn ⟨j,hj⟩)
    obtain ⟨j,hj⟩:=this
    have hjN:j < N:=Nat.lt_of_not_le fun hle=>hj (rndD_out E (fun e he=>(hE e he).1) hle)
    have:=sumN_lt (N:=N) (fun i=>rndD_le E (d:=iter (rndD E) k d0) i) hjN (rndD_nn E (fun e he=>(hE e he).2.2.2) (iterD_nn hE h0 k) j) (by have:=rndD_le E (d:=iter (rndD E) k d0) j; omega)
    exact ih (k+1) (by show sumN N (rndD E (iter (rndD E) k d0))≤m; omega)
 exact key _ 0 (Nat.le_refl _)
omit hE h0 in
theorem iterD_anti:∀ (m n:Nat) (i:Nat),n≤m→iter (rndD E) m d0 i≤iter (rndD E) n d0 i:=by
 intro m
 induction m with
 | zero=>intro n i h; have:n=0:=by omega
         subst this; exact Int.le_refl _
 | succ m ih =>
  intro n i h
  by_cases hn:n=m+1
  ·subst hn; exact Int.le_refl _
  ·exact Int.le_trans (rndD_le E i) (ih n i (by omega))
theorem settled:∃ L:Nat→Int,(∀ i,i < N→iter (rndD E) N d0 i=L i)∧(∀ i,0≤L i∧L i≤d0 i)∧(∀ e∈E,L e.a≤L e.b+e.w)∧(∀ i,L i=d0 i∨∃ e∈E,e.a=i∧L i=L e.b+e.w):=by
 obtain ⟨K,hK⟩:=limit hE h0
 refine ⟨iter (rndD E) K d0,?_,fun i=>⟨iterD_nn hE h0 K i,iterD_anti K 0 i (by omega)⟩,?_,?_⟩
 rotate_left
 ·intro e he
  have:=rndD_edge E (d:=iter (rndD E) K d0) he
  rwa [hK] at this
 ·have inv:∀ n i,iter (rndD E) n d0 i=d0 i∨∃ e∈E,e.a=i∧iter (rndD E) n d0 e.b+e.w≤iter (rndD E) n d0 i:=by
   intro n
   induction n with
   | zero=>intro i; exact .inl rfl
   | succ n ih=>exact rndD_inv E (fun e he=>⟨he,(hE e he).2.2.1⟩) ih
  intro i
  rcases inv K i with h|⟨e,he,h1,h2⟩
  ·exact .inl h
  ·right
   refine ⟨e,he,h1,?_⟩
   have:=rndD_edge E (d:=iter (rndD E) K d0) he
   rw [hK,h1] at this
   omega
 ·have hge:∀ n i,iter (rndD E) K d0 i≤iter (rndD E) n d0 i:=by
   intro n i
   by_cases hn:n≤K
   ·exact iterD_anti K n i hn
   ·have:=iter_fix hK (n - K)
    rw [show K+(n - K)=n by omega] at this
    rw [this]; exact Int.le_refl _
  have inv:∀ n i,iter (rndD E) n d0 i=d0 i∨∃ e∈E,e.a=i∧iter (rndD E) n d0 e.b+e.w≤iter (rndD E) n d0 i:=by
   intro n
   induction n with
   | zero=>intro i; exact .inl rfl
   | succ n ih=>exact rndD_inv E (fun e he=>⟨he,(hE e he).2.2.1⟩) ih
  have main:∀ n i,i < N→cnt N (fun j=>decide (iter (rndD E) K d0 j < iter (rndD E) K d0 i))≤n→iter (rndD E) n d0 i=iter (rndD E) K d0 i:=by
   intro n
   induction n with
   | zero =>
    intro i hi hc
    rcases inv K i with h|⟨e,he,h1,h2⟩
    ·exact h.symm
    ·exfalso
     have hw:=(hE e he).2.2.2
     have:=cnt_lt (N:=N) (S:=fun _=>false) (S':=fun j=>decide (iter (rndD E) K d0 j < iter (rndD E) K d0 i)) (fun _ _ h=>by simp at h) (hE e he).2.1 rfl (decide_eq_true (by omega))
     omega
   | succ n ih =>
    intro i hi hc
    have hg:=hge (n+1) i
    rcases inv K i with h|⟨e,he,h1,h2⟩
    ·have h4:iter (rndD E) (n+1) d0 i≤d0 i:=iterD_anti (E:=E) (d0:=d0) (n+1) 0 i (by omega)
     omega
    ·have hw:=(hE e he).2.2.2
     have hlt:cnt N (fun j=>decide (iter (rndD E) K d0 j < iter (rndD E) K d0 e.b))+1≤cnt N (fun j=>decide (iter (rndD E) K d0 j < iter (rndD E) K d0 i)) :=
      cnt_lt (fun j _ hj=>by have:=of_decide_eq_true hj; exact decide_eq_true (by omega)) (hE e he).2.1 (decide_eq_false (by omega)) (decide_eq_true (by omega))
     have hb:=ih e.b (hE e he).2.1 (by omega)
     have:=rndD_edge E (d:=iter (rndD E) n d0) he
     rw [h1,hb] at this
     have h3:iter (rndD E) (n+1) d0 i=rndD E (iter (rndD E) n d0) i:=rfl
     omega
  intro i hi
  exact main N i hi (cnt_le _ _)
end
structure Dst (κ:Nat→Int) (E:List Ed) (N:Nat) (F:Nat→Nat) (D:Nat→Int):Prop where
 edge:∀ e∈E,D e.a≤D e.b+e.w
 top:∀ i,i < N→F i=i→D i=0
 nn:∀ i,i < N→0≤D i
 par:∀ i,i < N→F i≠i→∃ e∈E,e.a=i∧D i=D e.b+e.w
theorem Dst.le {κ:Nat→Int} {E:List Ed} {N:Nat} {F:Nat→Nat} {D D':Nat→Int} (hE:∀ e∈E,e.a < N∧e.b < N∧e.a≠e.b∧1≤e.w) (h:Dst κ E N F D) (h':Dst κ E N F D'):∀ (n i:Nat),i < N→D' i≤n→D i≤D' i:=by
 intro n
 induction n with
 | zero =>
  intro i hi hn
  by_cases hF:F i=i
  ·rw [h.top i hi hF,h'.top i hi hF]; exact Int.le_refl _
  ·obtain ⟨e,he,h1,h2⟩:=h'.par i hi hF
   have:=h'.nn e.b (hE e he).2.1
   have:=(hE e he).2.2.2
   omega
 | succ n ih =>
  intro i hi hn
  by_cases hF:F i=i
  ·rw [h.top i hi hF,h'.top i hi hF]; exact Int.le_refl _
  ·obtain ⟨e,he,h1,h2⟩:=h'.par i hi hF
   have h3:=(hE e he).2.2.2
   have h4:=ih e.b (hE e he).2.1 (by omega)
   have h5:=h.edge e he
   rw [h1] at h5
   omega
theorem Dst.eq {κ:Nat→Int} {E:List Ed} {N:Nat} {F:Nat→Nat} {D D':Nat→Int} (hE:∀ e∈E,e.a < N∧e.b < N∧e.a≠e.b∧1≤e.w) (h:Dst κ E N F D) (h':Dst κ E N F D') (i:Nat) (hi:i < N):D i=D' i:=by
 have h1:=h.le hE h' (D' i).toNat i hi (by omega)
 have h2:=h'.le hE h (D i).toNat i hi (by omega)
 omega
theorem dst_ok {κ:Nat→Int} {E:List Ed} {N:Nat} {W far:Int} (hE:∀ e∈E,e.a < N∧e.b < N∧e.a≠e.b∧1≤e.w) (hW:∀ e∈E,e.w≤W) (hW0:0≤W) (hf0:0 < far) (hfar:W*((N:Int) - 1) < far) (hs:symE E) (hκ:∀ i j,i < N→j < N→κ i=κ j→i=j) :
  Dst κ E N (roots κ E N) (iter (rndD E) N (fun i=>if roots κ E N i=i then 0 else far))∧∀ i,i < N→iter (rndD E) N (fun i=>if roots κ E N i=i then 0 else far) i≤W*((N:Int) - 1):=by
 have hsame:=roots_same (κ:=κ) (fun e he=>⟨(hE e he).1,(hE e he).2.1⟩) hs hκ
 obtain ⟨L,hL,hb,he,hp⟩:=settled (N:=N) hE (d0:=fun i=>if roots κ E N i=i then 0 else far) (fun i=>by split <;> omega)
 have lvlt:∀ i j,i < N→j < N→L i < L j→cnt N (fun k=>decide (L k < L i))+1≤cnt N (fun k=>decide (L k < L j)):=fun i j hi hj h =>
  cnt_lt (fun k _ hk=>by have:=of_decide_eq_true hk; exact decide_eq_true (by omega)) hi (decide_eq_false (by omega)) (decide_eq_true h)
 have lvN:∀ i,i < N→cnt N (fun k=>decide (L k < L i))+1≤N:=by
  intro i hi
  have:=cnt_lt (N:=N) (S:=fun k=>decide (L k < L i)) (S':=fun _=>true) (fun _ _ _=>rfl) hi (decide_eq_false (by omega)) rfl
  have:=cnt_le N (fun _=>true)
  omega
 have bound:∀ (n j:Nat),j < N→cnt N (fun k=>decide (L k < L j))≤n→L j < far→L j≤W*(cnt N (fun k=>decide (L k < L j)):Nat):=by
  intro n
  induction n with
  | zero =>
   intro j hj hc hl
   rcases hp j with h|⟨e,hee,h1,h2⟩
   ·have:L j=0:=by
     have h':L j=if roots κ E N j=j then 0 else far:=h
     split at h' <;> omega
    rw [this]
    exact Int.mul_nonneg hW0 (by omega)
   ·exfalso
    have:=lvlt e.b j (hE e hee).2.1 hj (by have:=(hE e hee).2.2.2; omega)
    omega
  | succ n ih =>
   intro j hj hc hl
   rcases hp j with h|⟨e,hee,h1,h2⟩
   ·have:L j=0:=by
     have h':L j=if roots κ E N j=j then 0 else far:=h
     split at h' <;> omega
    rw [this]
    exact Int.mul_nonneg hW0 (by omega)
   ·have hw:=(hE e hee).2.2.2
    have hlt:=lvlt e.b j (hE e hee).2.1 hj (by omega)
    have h3:=ih e.b (hE e hee).2.1 (by omega) (by omega)
    have h4:=hW e hee
    have h5:W*(cnt N (fun k=>decide (L k < L e.b)):Nat)+W≤W*(cnt N (fun k=>decide (L k < L j)):Nat):=by
     have:W*((cnt N (fun k=>decide (L k < L e.b))+1:Nat):Int)≤W*(cnt N (fun k=>decide (L k < L j)):Nat):=Int.mul_le_mul_of_nonneg_left (by omega) hW0
     rw [Int.natCast_add,Int.mul_add] at this
     simpa using this
    omega
 have hroot:∀ i,roots κ E N (roots κ E N i)=roots κ E N i:=fun i=>((roots_cn (κ:=κ) (E:=E) (N:=N) i).const (f:=roots κ E N) hsame).symm
 have hall:∀ i,i < N→L i < far:=by
  intro i hi
  refine Classical.byContradiction fun hn=>?_
  have hr:L (roots κ E N i) < far:=by
   have:=(hb (roots κ E N i)).2
   simp only [hroot,if_true] at this
   omega
  obtain ⟨e,hee,h1,h2⟩:=(roots_cn (κ:=κ) (E:=E) (N:=N) i).cross (P:=fun j=>L j < far) hn hr
  have h3:=he e hee
  have h4:=bound _ e.b (hE e hee).2.1 (Nat.le_refl _) h2
  have h5:=lvlt e.b e.a (hE e hee).2.1 (hE e hee).1 (by omega)
  have h6:=lvN e.a (hE e hee).1
  have h7:=hW e hee
  have h8:W*(cnt N (fun k=>decide (L k < L e.b)):Nat)+W≤W*((N:Int) - 1):=by
   have:W*((cnt N (fun k=>decide (L k < L e.b))+1:Nat):Int)≤W*((N:Int) - 1):=Int.mul_le_mul_of_nonneg_left (by omega) hW0
   rw [Int.natCast_add,Int.mul_add] at this
   simpa using this
  omega
 refine ⟨⟨?_,?_,?_,?_⟩,?_⟩
 ·intro e hee
  rw [hL _ (hE e hee).1,hL _ (hE e hee).2.1]
  exact he e hee
 ·intro i hi hF
  rw [hL i hi]
  have:=hb i
  simp only [hF,if_true] at this
  omega
 ·intro i hi
  rw [hL i hi]
  exact (hb i).1
 ·intro i hi hF
  rcases hp i with h|⟨e,hee,h1,h2⟩
  ·have h':L i=if roots κ E N i=i then 0 else far:=h
   rw [if_neg hF] at h'
   have:=hall i hi
   omega
  ·refine ⟨e,hee,h1,?_⟩
   rw [hL i hi,hL _ (hE e hee).2.1,h2]
 ·intro i hi
  rw [hL i hi]
  have h1:=bound _ i hi (Nat.le_refl _) (hall i hi)
  have h2:=lvN i hi
  have h3:W*((cnt N (fun k=>decide (L k < L i)):Nat):Int)≤W*((N:Int) - 1):=Int.mul_le_mul_of_nonneg_left (by omega) hW0
  omega
end Go.Proofs.Ytbibdnlbpjnieaa
namespace Go.Proofs.Ytbibdnlbpjnieaa
open Go Go.Abs
def kE (cut:Nat→Bool) (i:Nat) (l:Lk):List Ed:=if cut i=true then [] else [⟨l.a.toNat,l.b.toNat,0⟩,⟨l.b.toNat,l.a.toNat,0⟩]
def kEs (cut:Nat→Bool):Nat→List Lk→List Ed
 | _,[]=>[]
 | i,l::ls=>kE cut i l++kEs cut (i+1) ls
def RelS (N:Nat) (r:List Bool) (S:Nat→Bool):Prop:=r.length=N∧∀ n,n < N→r[n]? = some (S n)
theorem rStep_rel {N:Nat} {cut:Nat→Bool} {i:Nat} {r:List Bool} {S:Nat→Bool} {l:Lk} (h:RelS N r S) (ha:l.a.toNat < N) (hb:l.b.toNat < N) (hab:l.a.toNat≠l.b.toNat):RelS N (rStep cut i r l) (sprB (kE cut i l) S):=by
 obtain ⟨h1,h2⟩:=h
 have ea:rB r l.a=S l.a.toNat:=by rw [rB,h2 _ ha]; rfl
 have eb:rB r l.b=S l.b.toNat:=by rw [rB,h2 _ hb]; rfl
 unfold rStep kE
 rw [ea,eb]
 generalize l.a.toNat=A at *
 generalize l.b.toNat=B at *
 cases hc:cut i with
 | true=>simp only [Bool.not_true,Bool.false_and,Bool.false_eq_true,if_false,if_true]; exact ⟨h1,h2⟩
 | false =>
  simp only [Bool.not_false,Bool.true_and,Bool.false_eq_true,if_false]
  have hv:∀ n,sprB [⟨A,B,0⟩,⟨B,A,0⟩] S n=if n=A∨n=B then (S A || S B) else S n:=by
   intro n
   show bpE (bpE S ⟨A,B,0⟩) ⟨B,A,0⟩ n=_
   unfold bpE
   by_cases hn:n=B
   ·subst hn
    rw [if_pos (.inr rfl),setF_same]
    simp only [setF_same]
    rw [setF_ne (fun h=>hab h.symm)]
    cases S A <;> cases S n <;> rfl
   ·rw [setF_ne hn]
    by_cases hn2:n=A
    ·subst hn2; rw [if_pos (.inl rfl),setF_same]
    ·rw [if_neg (fun h=>h.elim hn2 hn),setF_ne hn2]
  refine ⟨?_,fun n hn=>?_⟩
  ·split <;> simp [h1]
  ·rw [hv n]
   by_cases hq:(S A != S B)=true
   ·rw [if_pos hq]
    have hor:(S A || S B)=true:=by revert hq; cases S A <;> cases S B <;> decide
    by_cases hn2:n=B
    ·subst hn2; rw [if_pos (.inr rfl),List.getElem?_set_self (by simp; omega),hor]
    ·rw [List.getElem?_set_ne (fun h=>hn2 h.symm)]
     by_cases hn3:n=A
     ·subst hn3; rw [if_pos (.inl rfl),List.getElem?_set_self (by omega),hor]
     ·rw [if_neg (fun h=>h.elim hn3 hn2),List.getElem?_set_ne (fun h=>hn3 h.symm)]
      exact h2 n hn
   ·rw [if_neg hq,h2 n hn]
    have heq:S A=S B:=by revert hq; cases S A <;> cases S B <;> decide
    by_cases hn2:n=A∨n=B
    ·rw [if_pos hn2]
     rcases hn2 with rfl|rfl
     ·rw [heq]; simp
     ·rw [heq]; simp
    ·rw [if_neg hn2]
theorem rRound_rel {N:Nat} {cut:Nat→Bool}:∀ (ls:List Lk) (i:Nat) (r:List Bool) (S:Nat→Bool),(∀ l∈ls,l.a.toNat < N∧l.b.toNat < N∧l.a.toNat≠l.b.toNat)→RelS N r S→RelS N (rRound cut i ls r) (sprB (kEs cut i ls) S):=by
 intro ls
 induction ls with
 | nil=>intro i r S _ h; exact h
 | cons l ls ih =>
  intro i r S hv h
  have h0:=hv l (by simp)
  have h1:=rStep_rel (cut:=cut) (i:=i) h h0.1 h0.2.1 h0.2.2
  have h2:=ih (i+1) _ _ (fun m hm=>hv m (by simp [hm])) h1
  rw [rRound,kEs,sprB,List.foldl_append]
  exact h2
theorem iter_comm {σ:Type} (f:σ→σ):∀ (n:Nat) (s:σ),iter f n (f s)=f (iter f n s):=by
 intro n
 induction n with
 | zero=>intro s; rfl
 | succ n ih=>intro s; show f (iter f n (f s))=_; rw [ih]; rfl
theorem rIter_rel {N:Nat} {cut:Nat→Bool} {ls:List Lk} (hv:∀ l∈ls,l.a.toNat < N∧l.b.toNat < N∧l.a.toNat≠l.b.toNat):∀ (n:Nat) (r:List Bool) (S:Nat→Bool),RelS N r S→RelS N (rIter cut ls n r) (iter (sprB (kEs cut 0 ls)) n S):=by
 intro n
 induction n with
 | zero=>intro r S h; exact h
 | succ n ih =>
  intro r S h
  have:=ih _ _ (rRound_rel (cut:=cut) ls 0 r S hv h)
  rw [rIter]
  rwa [iter_comm] at this
theorem kEs_mem {cut:Nat→Bool} {e:Ed}:∀ (ls:List Lk) (i:Nat),e∈kEs cut i ls↔∃ j l,ls[j]? = some l∧cut (i+j)=false∧(e=⟨l.a.toNat,l.b.toNat,0⟩∨e=⟨l.b.toNat,l.a.toNat,0⟩):=by
 intro ls
 induction ls with
 | nil=>intro i; simp [kEs]
 | cons l ls ih =>
  intro i
  rw [kEs,List.mem_append,ih]
  constructor
  ·rintro (h|⟨j,m,h1,h2,h3⟩)
   ·unfold kE at h
    split at h
    ·cases h
    ·rename_i hc
     refine ⟨0,l,rfl,by simpa using hc,by simpa using h⟩
   ·exact ⟨j+1,m,by simpa using h1,by rw [← h2]; congr 1; omega,h3⟩
  ·rintro ⟨j,m,h1,h2,h3⟩
   cases j with
   | zero =>
    left
    simp only [List.getElem?_cons_zero,Option.some.injEq] at h1
    subst h1
    have h2':cut i=false:=h2
    rw [kE,if_neg (by rw [h2']; simp)]
    simpa using h3
   | succ j=>exact .inr ⟨j,m,by simpa using h1,by rw [← h2]; congr 1; omega,h3⟩
theorem kEs_sym (cut:Nat→Bool) (ls:List Lk):∀ e∈kEs cut 0 ls,(⟨e.b,e.a,e.w⟩:Ed)∈kEs cut 0 ls:=by
 intro e he
 rw [kEs_mem] at he ⊢
 obtain ⟨j,l,h1,h2,h3⟩:=he
 refine ⟨j,l,h1,h2,?_⟩
 rcases h3 with rfl|rfl
 ·exact .inr rfl
 ·exact .inl rfl
theorem reach_spec {t:Tpo} {s:Nat} {cut:Nat→Bool} (hv:∀ l∈t.links,endsP t l) (hs:s < t.nodes.toNat) {n:Nat} (hn:n < t.nodes.toNat):(reachL t s cut)[n]? = some true↔Cn (kEs cut 0 t.links) n s:=by
 have hv2:∀ l∈t.links,l.a.toNat < t.nodes.toNat∧l.b.toNat < t.nodes.toNat∧l.a.toNat≠l.b.toNat:=fun l hl=>by
  obtain ⟨⟨h1,h2⟩,⟨h3,h4⟩,h5⟩:=hv l hl
  omega
 have h0:RelS t.nodes.toNat ((List.replicate t.nodes.toNat false).set s true) (fun j=>decide (j=s)):=by
  refine ⟨by simp,fun n hn=>?_⟩
  by_cases h:n=s
  ·subst h; rw [List.getElem?_set_self (by simpa using hn)]; simp
  ·rw [List.getElem?_set_ne (fun e=>h e.symm),List.getElem?_replicate,if_pos hn]; simp [h]
 have h1:=(rIter_rel (cut:=cut) hv2 t.nodes.toNat _ _ h0).2 n hn
 rw [reachL,h1,Option.some.injEq]
 refine reach_iff (fun e he=>?_) s n
 rw [kEs_mem] at he
 obtain ⟨j,l,q1,q2,q3⟩:=he
 have:=hv2 l (List.mem_of_getElem? q1)
 rcases q3 with rfl|rfl
 ·exact this.1
 ·exact this.2.1
end Go.Proofs.Ytbibdnlbpjnieaa
namespace Go.Proofs.Ytbibdnlbpjnieaa
open Go Go.Abs
def dg (n:Int) (L:List Lk):Int:=L.foldr (fun l s=>s+(if l.a=n then 1 else 0)+(if l.b=n then 1 else 0)) 0
theorem dg_app (n:Int) (L:List Lk) (l:Lk):dg n (L++[l])=dg n L+(if l.a=n then 1 else 0)+(if l.b=n then 1 else 0):=by
 induction L with
 | nil=>simp [dg]
 | cons x L ih =>
  simp only [dg,List.cons_append,List.foldr_cons] at ih ⊢
  rw [ih]
  omega
theorem dg_mk (n:Int) (L:List Lk) (d:Dr) (k:Nat) (a b:Int):dg n (L++[mkK d k a b])=dg n L+(if a=n then 1 else 0)+(if b=n then 1 else 0):=dg_app n L _
theorem dg_zero {n:Int} {L:List Lk} (h:∀ l∈L,l.a≠n∧l.b≠n):dg n L=0:=by
 induction L with
 | nil=>rfl
 | cons x L ih =>
  have h0:=h x (by simp)
  have:=ih (fun l hl=>h l (by simp [hl]))
  simp only [dg,List.foldr_cons] at this ⊢
  rw [this,if_neg h0.1,if_neg h0.2]; rfl
theorem degs_dg {N:Nat}:∀ (L:List Lk) (m:List Int),(∀ l∈L,(0≤l.a∧l.a.toNat < N)∧(0≤l.b∧l.b.toNat < N)∧l.a≠l.b)→m.length=N→∀ n:Nat,n < N→iA (L.foldl dStep m) (n:Nat)=iA m (n:Nat)+dg (n:Nat) L:=by
 intro L
 induction L with
 | nil=>intro m _ _ n _; simp [dg]
 | cons l L ih =>
  intro m hv hm n hn
  obtain ⟨⟨a0,a1⟩,⟨b0,b1⟩,hab⟩:=hv l (by simp)
  rw [List.foldl_cons,ih (dStep m l) (fun x hx=>hv x (by simp [hx])) (by simp [dStep,hm]) n hn]
  have hstep:iA (dStep m l) (n:Nat)=iA m (n:Nat)+(if l.a=(n:Nat) then 1 else 0)+(if l.b=(n:Nat) then 1 else 0):=by
   have hne:l.a.toNat≠l.b.toNat:=fun h=>hab (by omega)
   simp only [dStep,iA,Int.toNat_natCast]
   by_cases hb:l.b.toNat=n
   ·have hb':l.b=(n:Nat):=by omega
    have ha':¬ l.a=(n:Nat):=by omega
    subst hb
    rw [List.getElem?_set_self (by simp; omega),if_pos hb',if_neg ha',List.getElem?_set_ne hne]
    simp
   ·have hb':¬ l.b=(n:Nat):=by omega
    rw [List.getElem?_set_ne hb,if_neg hb']
    by_cases ha:l.a.toNat=n
    ·have ha':l.a=(n:Nat):=by omega
     subst ha
     rw [List.getElem?_set_self (by omega),if_pos ha']
     simp
    ·have ha':¬ l.a=(n:Nat):=by omega
     rw [List.getElem?_set_ne ha,if_neg ha']
     simp
  rw [hstep]
  simp only [dg,List.foldr_cons]
  omega
section
variable {d:Dr} (hd:drP d)
include hd
omit hd in
theorem dSt_at (n:Nat):(dSt d)[n]?.getD false=decide (brN d≤n∧n < brN d+stN d):=by
 by_cases h:n < brN d+stN d
 ·simp [dSt,h]
 ·simp [dSt,h]
def lkV (d:Dr) (l:Lk):Prop:=(0≤l.a∧l.a < ((brN d+stN d:Nat):Int))∧(0≤l.b∧l.b < ((brN d+stN d:Nat):Int))∧l.a≠l.b∧(l.a < (brN d:Nat)∨l.b < (brN d:Nat))∧(1≤l.per∧l.per≤1000)∧0≤l.delay∧l.delay≤10000
theorem lkR_iff (L:List Lk) (l:Lk):lkR ⟨((brN d+stN d:Nat):Int),dSt d,L⟩ l=true↔lkV d l:=by
 simp only [lkR,lk1,lk2,lk4,nodeP,stA,dSt_at,Bool.and_eq_true,decide_eq_true_eq,Bool.not_eq_true',Bool.and_eq_false_iff,decide_eq_false_iff_not,lkV]
 constructor
 ·rintro ⟨⟨h1,h2,h3⟩,h4,h5⟩
  exact ⟨h1,h2,h3,by omega,h5⟩
 ·rintro ⟨h1,h2,h3,h4,h5⟩
  refine ⟨⟨h1,h2,h3⟩,?_,h5⟩
  omega
theorem mkK_V (n:Nat) (a b:Int):(1≤(mkK d n a b).per∧(mkK d n a b).per≤1000)∧0≤(mkK d n a b).delay∧(mkK d n a b).delay≤10000:=by
 have h1:=pkL_bd hd.pers n
 have h2:=pkL_bd hd.delays n
 simp only [mkK]
 omega
structure Snd (d:Dr) (L:List Lk):Prop where
 v:∀ l∈L,lkV d l
 j:L.Pairwise (fun m l=>joins l m=false)
 n:L.length≤24
theorem wD_or {L:List Lk} (h:Snd d L) (a b:Int):(wD d L a b=L∨wD d L a b=L++[mkK d L.length a b])∧Snd d (wD d L a b):=by
 unfold wD wth
 by_cases h1:L.length=24∨lkR ⟨((brN d+stN d:Nat):Int),dSt d,L⟩ (mkK d L.length a b)=false
 ·rw [if_pos h1]; exact ⟨.inl rfl,h⟩
 ·rw [if_neg h1]
  by_cases h2:jnL L a b=true
  ·rw [if_pos h2]; exact ⟨.inl rfl,h⟩
  ·rw [if_neg h2]
   have h3:lkV d (mkK d L.length a b):=by
    rw [← lkR_iff hd L]
    cases hq:lkR ⟨((brN d+stN d:Nat):Int),dSt d,L⟩ (mkK d L.length a b) with
    | true=>rfl
    | false=>exact absurd (.inr hq) h1
   have h4:L.length≠24:=fun e=>h1 (.inl e)
   have h5:=h.n
   refine ⟨.inr rfl,fun l hl=>?_,?_,by simp; omega⟩
   ·rcases List.mem_append.1 hl with hl|hl
    ·exact h.v l hl
    ·rw [List.mem_singleton] at hl; rw [hl]; exact h3
   ·rw [List.pairwise_append]
    refine ⟨h.j,List.pairwise_singleton _ _,fun m hm l hl=>?_⟩
    rw [List.mem_singleton] at hl
    rw [hl]
    refine decide_eq_false (fun hq=>h2 ?_)
    simp only [mkK] at hq
    simp only [jnL,List.any_eq_true,decide_eq_true_eq]
    exact ⟨m,hm,by omega⟩
theorem wD_new {L:List Lk} (h:L.length < 24) {a b:Int} (hv:(0≤a∧a < ((brN d+stN d:Nat):Int))∧(0≤b∧b < ((brN d+stN d:Nat):Int))∧a≠b∧(a < (brN d:Nat)∨b < (brN d:Nat))) (hj:∀ l∈L,¬ (l.a=a∧l.b=b∨l.a=b∧l.b=a)):wD d L a b=L++[mkK d L.length a b]:=by
 unfold wD wth
 have h1:lkR ⟨((brN d+stN d:Nat):Int),dSt d,L⟩ (mkK d L.length a b)=true:=by
  rw [lkR_iff hd]
  exact ⟨hv.1,hv.2.1,hv.2.2.1,hv.2.2.2,mkK_V hd _ _ _⟩
 have h2:¬ jnL L a b=true:=by
  intro hq
  simp only [jnL,List.any_eq_true,decide_eq_true_eq] at hq
  obtain ⟨l,hl,hq⟩:=hq
  exact hj l hl hq
 rw [if_neg (by rintro (e|e); omega; rw [h1] at e; cases e),if_neg h2]
theorem dL1_ok:Snd d (dL1 d)∧(dL1 d).length=brN d - 1∧(∀ l∈dL1 d,l.a < (brN d:Nat)∧l.b < (brN d:Nat))∧∀ i,i < brN d - 1→∃ l∈dL1 d,l.a=(i:Nat)∧l.b=((i+1:Nat):Int):=by
 obtain ⟨b1,b2,b3⟩:=brN_bd hd
 obtain ⟨s1,s2,s3⟩:=stN_bd hd
 have key:∀ k,k≤brN d - 1→Snd d ((List.range k).foldl (fun L i=>wD d L (i:Nat) ((i+1:Nat):Int)) [])∧((List.range k).foldl (fun L i=>wD d L (i:Nat) ((i+1:Nat):Int)) []).length=k ∧
   (∀ l∈(List.range k).foldl (fun L i=>wD d L (i:Nat) ((i+1:Nat):Int)) [],l.b=l.a+1∧0≤l.a∧l.a < (k:Nat))∧∀ i,i < k→∃ l∈(List.range k).foldl (fun L i=>wD d L (i:Nat) ((i+1:Nat):Int)) [],l.a=(i:Nat)∧l.b=((i+1:Nat):Int):=by
  intro k
  induction k with
  | zero=>intro _; exact ⟨⟨(fun l hl=>(by cases hl)),List.Pairwise.nil,Nat.zero_le _⟩,rfl,(fun l hl=>(by cases hl)),fun i hi=>by omega⟩
  | succ k ih =>
   intro hk
   obtain ⟨i1,i2,i3,i4⟩:=ih (by omega)
   rw [List.range_succ,List.foldl_append,List.foldl_cons,List.foldl_nil]
   generalize (List.range k).foldl (fun L i=>wD d L (i:Nat) ((i+1:Nat):Int)) []=L at *
   have hnew:=wD_new hd (L:=L) (by omega) (a:=(k:Nat)) (b:=((k+1:Nat):Int)) ⟨by omega,by omega,by omega,by omega⟩ (fun l hl=>by have:=i3 l hl; omega)
   have hs:=(wD_or hd i1 (k:Nat) ((k+1:Nat):Int)).2
   rw [hnew] at hs ⊢
   refine ⟨hs,by simp [i2],fun l hl=>?_,fun i hi=>?_⟩
   ·rcases List.mem_append.1 hl with hl|hl
    ·have:=i3 l hl; omega
    ·rw [List.mem_singleton] at hl; rw [hl]; simp only [mkK]; omega
   ·by_cases hik:i=k
    ·subst hik; exact ⟨_,List.mem_append_right _ (List.mem_singleton.2 rfl),rfl,rfl⟩
    ·obtain ⟨l,h1,h2⟩:=i4 i (by omega)
     exact ⟨l,List.mem_append_left _ h1,h2⟩
 obtain ⟨k1,k2,k3,k4⟩:=key (brN d - 1) (Nat.le_refl _)
 exact ⟨k1,k2,fun l hl=>by have:=k3 l hl; omega,k4⟩
structure Lnk2 (d:Dr) (L:List Lk):Prop where
 s:Snd d L
 chain:∀ i,i < brN d - 1→∃ l∈L,l.a=(i:Nat)∧l.b=((i+1:Nat):Int)
 home:∀ s,s < stN d→∃ l∈L,l.a=((brN d+s:Nat):Int)∧(0≤l.b∧l.b < (brN d:Nat))
theorem dL2_ok:Lnk2 d (dL2 d)∧∀ s,s < stN d→dg ((brN d+s:Nat):Int) (dL2 d)=1:=by
 obtain ⟨b1,b2,b3⟩:=brN_bd hd
 obtain ⟨s1,s2,s3⟩:=stN_bd hd
 obtain ⟨c1,c2,c3,c4⟩:=dL1_ok hd
 have key:∀ k,k≤stN d→Snd d ((List.range k).foldl (fun L s=>wD d L ((brN d+s:Nat):Int) (pkL d.homes (2*s) % (brN d:Nat))) (dL1 d))∧((List.range k).foldl (fun L s=>wD d L ((brN d+s:Nat):Int) (pkL d.homes (2*s) % (brN d:Nat))) (dL1 d)).length=brN d - 1+k ∧
   (∀ l∈(List.range k).foldl (fun L s=>wD d L ((brN d+s:Nat):Int) (pkL d.homes (2*s) % (brN d:Nat))) (dL1 d),l.a < ((brN d+k:Nat):Int)∧l.b < (brN d:Nat)) ∧
   (∀ i,i < brN d - 1→∃ l∈(List.range k).foldl (fun L s=>wD d L ((brN d+s:Nat):Int) (pkL d.homes (2*s) % (brN d:Nat))) (dL1 d),l.a=(i:Nat)∧l.b=((i+1:Nat):Int)) ∧
   (∀ s,s < k→∃ l∈(List.range k).foldl (fun L s=>wD d L ((brN d+s:Nat):Int) (pkL d.homes (2*s) % (brN d:Nat))) (dL1 d),l.a=((brN d+s:Nat):Int)∧(0≤l.b∧l.b < (brN d:Nat))) ∧
   ∀ s,s < k→dg ((brN d+s:Nat):Int) ((List.range k).foldl (fun L s=>wD d L ((brN d+s:Nat):Int) (pkL d.homes (2*s) % (brN d:Nat))) (dL1 d))=1:=by
  intro k
  induction k with
  | zero=>intro _; exact ⟨c1,c2,fun l hl=>by have:=c3 l hl; omega,c4,fun s hs=>by omega,fun s hs=>by omega⟩
  | succ k ih =>
   intro hk
   obtain ⟨i1,i2,i3,i4,i5,i6⟩:=ih (by omega)
   rw [List.range_succ,List.foldl_append,List.foldl_cons,List.foldl_nil]
   generalize (List.range k).foldl (fun L s=>wD d L ((brN d+s:Nat):Int) (pkL d.homes (2*s) % (brN d:Nat))) (dL1 d)=L at *
   have hm0:=Int.emod_nonneg (pkL d.homes (2*k)) (b:=((brN d:Nat):Int)) (by omega)
   have hm1:=Int.emod_lt_of_pos (pkL d.homes (2*k)) (b:=((brN d:Nat):Int)) (by omega)
   generalize pkL d.homes (2*k) % ((brN d:Nat):Int)=V at *
   have hnew:=wD_new hd (L:=L) (by omega) (a:=((brN d+k:Nat):Int)) (b:=V) ⟨by omega,by omega,by omega,by omega⟩ (fun l hl=>by have:=i3 l hl; omega)
   have hs:=(wD_or hd i1 ((brN d+k:Nat):Int) V).2
   rw [hnew] at hs ⊢
   refine ⟨hs,by simp [i2]; omega,fun l hl=>?_,fun i hi=>?_,fun s hs=>?_,fun s hs=>?_⟩
   ·rcases List.mem_append.1 hl with hl|hl
    ·have:=i3 l hl; omega
    ·rw [List.mem_singleton] at hl; rw [hl]; simp only [mkK]; omega
   ·obtain ⟨l,h1,h2⟩:=i4 i hi
    exact ⟨l,List.mem_append_left _ h1,h2⟩
   ·by_cases hsk:s=k
    ·subst hsk; exact ⟨_,List.mem_append_right _ (List.mem_singleton.2 rfl),rfl,hm0,hm1⟩
    ·obtain ⟨l,h1,h2⟩:=i5 s (by omega)
     exact ⟨l,List.mem_append_left _ h1,h2⟩
   ·rw [dg_mk]
    by_cases hsk:s=k
    ·subst hsk
     rw [dg_zero (fun l hl=>by have:=i3 l hl; omega),if_pos rfl,if_neg (by omega)]; rfl
    ·rw [i6 s (by omega),if_neg (by omega),if_neg (by omega)]; rfl
 obtain ⟨k1,k2,k3,k4,k5,k6⟩:=key (stN d) (Nat.le_refl _)
 exact ⟨⟨k1,k4,k5⟩,k6⟩
theorem lnk2_step {L:List Lk} (h:Lnk2 d L) (a b:Int):Lnk2 d (wD d L a b)∧∀ n,dg n L≤dg n (wD d L a b)∧dg n (wD d L a b)≤dg n L+(if a=n then 1 else 0)+(if b=n then 1 else 0):=by
 obtain ⟨h1,h2⟩:=wD_or hd h.s a b
 rcases h1 with e|e
 ·rw [e]
  refine ⟨h,fun n=>⟨Int.le_refl _,?_⟩⟩
  split <;> split <;> omega
 ·rw [e] at h2 ⊢
  refine ⟨⟨h2,fun i hi=>?_,fun s hs=>?_⟩,fun n=>?_⟩
  ·obtain ⟨l,h1,h3⟩:=h.chain i hi
   exact ⟨l,List.mem_append_left _ h1,h3⟩
  ·obtain ⟨l,h1,h3⟩:=h.home s hs
   exact ⟨l,List.mem_append_left _ h1,h3⟩
  ·rw [dg_mk]
   constructor
   ·split <;> split <;> omega
   ·omega
theorem dL5_ok:Lnk2 d (dL5 d)∧∀ s,s < stN d→1≤dg ((brN d+s:Nat):Int) (dL5 d)∧dg ((brN d+s:Nat):Int) (dL5 d)≤2:=by
 obtain ⟨b1,b2,b3⟩:=brN_bd hd
 obtain ⟨s1,s2,s3⟩:=stN_bd hd
 obtain ⟨c1,c2⟩:=dL2_ok hd
 have h3:Lnk2 d (dL3 d)∧∀ s,s < stN d→dg ((brN d+s:Nat):Int) (dL3 d)=1:=by
  unfold dL3
  split
  ·obtain ⟨i1,i2⟩:=lnk2_step hd c1 ((brN d - 1:Nat):Int) 0
   refine ⟨i1,fun s hs=>?_⟩
   have h4:=i2 ((brN d+s:Nat):Int)
   rw [c2 s hs,if_neg (by omega),if_neg (by omega)] at h4
   omega
  ·exact ⟨c1,c2⟩
 have h4:∀ k,k≤stN d→Lnk2 d ((List.range k).foldl (fun L s=>if 0 < pkL d.homes (2*s+1) % 3 then wD d L ((brN d+s:Nat):Int) (pkL d.homes (2*s+1) % (brN d:Nat)) else L) (dL3 d))∧∀ s,s < stN d→1≤dg ((brN d+s:Nat):Int) ((List.range k).foldl (fun L s=>if 0 < pkL d.homes (2*s+1) % 3 then wD d L ((brN d+s:Nat):Int) (pkL d.homes (2*s+1) % (brN d:Nat)) else L) (dL3 d))∧dg ((brN d+s:Nat):Int) ((List.range k).foldl (fun L s=>if 0 < pkL d.homes (2*s+1) % 3 then wD d L ((brN d+s:Nat):Int) (pkL d.homes (2*s+1) % (brN d:Nat)) else L) (dL3 d))≤(if s < k then 2 else 1):=by
  intro k
  induction k with
  | zero=>intro _; exact ⟨h3.1,fun s hs=>by have:=h3.2 s hs; rw [if_neg (by omega)]; simp only [List.range_zero,List.foldl_nil]; omega⟩
  | succ k ih =>
   intro hk
   obtain ⟨i1,i2⟩:=ih (by omega)
   rw [List.range_succ,List.foldl_append,List.foldl_cons,List.foldl_nil]
   generalize (List.range k).foldl (fun L s=>if 0 < pkL d.homes (2*s+1) % 3 then wD d L ((brN d+s:Nat):Int) (pkL d.homes (2*s+1) % (brN d:Nat)) else L) (dL3 d)=L at *
   have hm1:=Int.emod_lt_of_pos (pkL d.homes (2*k+1)) (b:=((brN d:Nat):Int)) (by omega)
   generalize pkL d.homes (2*k+1) % ((brN d:Nat):Int)=V at *
   by_cases hq:0 < pkL d.homes (2*k+1) % 3
   ·rw [if_pos hq]
    obtain ⟨j1,j2⟩:=lnk2_step hd i1 ((brN d+k:Nat):Int) V
    refine ⟨j1,fun s hs=>?_⟩
    have h5:=j2 ((brN d+s:Nat):Int)
    have h6:=i2 s hs
    rw [if_neg (show ¬ V=((brN d+s:Nat):Int) by omega)] at h5
    by_cases hsk:s=k
    ·subst hsk
     rw [if_pos rfl] at h5
     rw [if_neg (by omega)] at h6
     rw [if_pos (by omega)]
     omega
    ·rw [if_neg (by omega)] at h5
     by_cases hlt:s < k
     ·rw [if_pos hlt] at h6; rw [if_pos (by omega)]; omega
     ·rw [if_neg hlt] at h6; rw [if_neg (by omega)]; omega
   ·rw [if_neg hq]
    refine ⟨i1,fun s hs=>?_⟩
    have h6:=i2 s hs
    by_cases hlt:s < k
    ·rw [if_pos hlt] at h6; rw [if_pos (by omega)]; omega
    ·rw [if_neg hlt] at h6
     split <;> omega
 have h5:∀ (l:List Nat),Lnk2 d (l.foldl (fun L i=>wD d L (pkL d.chords (2*i) % (brN d:Nat)) (pkL d.chords (2*i+1) % (brN d:Nat))) (dL4 d))∧∀ s,s < stN d→dg ((brN d+s:Nat):Int) (l.foldl (fun L i=>wD d L (pkL d.chords (2*i) % (brN d:Nat)) (pkL d.chords (2*i+1) % (brN d:Nat))) (dL4 d))=dg ((brN d+s:Nat):Int) (dL4 d):=by
  have h40:Lnk2 d (dL4 d):=(h4 (stN d) (Nat.le_refl _)).1
  intro l
  suffices hg:∀ (l:List Nat) (L:List Lk),Lnk2 d L→Lnk2 d (l.foldl (fun L i=>wD d L (pkL d.chords (2*i) % (brN d:Nat)) (pkL d.chords (2*i+1) % (brN d:Nat))) L)∧∀ s,s < stN d→dg ((brN d+s:Nat):Int) (l.foldl (fun L i=>wD d L (pkL d.chords (2*i) % (brN d:Nat)) (pkL d.chords (2*i+1) % (brN d:Nat))) L)=dg ((brN d+s:Nat):Int) L from hg l _ h40
  intro l
  induction l with
  | nil=>intro L h; exact ⟨h,fun _ _=>rfl⟩
  | cons i l ih =>
   intro L h
   rw [List.foldl_cons]
   have hm1:=Int.emod_lt_of_pos (pkL d.chords (2*i)) (b:=((brN d:Nat):Int)) (by omega)
   have hm2:=Int.emod_lt_of_pos (pkL d.chords (2*i+1)) (b:=((brN d:Nat):Int)) (by omega)
   obtain ⟨j1,j2⟩:=lnk2_step hd h (pkL d.chords (2*i) % (brN d:Nat)) (pkL d.chords (2*i+1) % (brN d:Nat))
   obtain ⟨q1,q2⟩:=ih _ j1
   refine ⟨q1,fun s hs=>?_⟩
   rw [q2 s hs]
   have h6:=j2 ((brN d+s:Nat):Int)
   rw [if_neg (by omega),if_neg (by omega)] at h6
   omega
 obtain ⟨q1,q2⟩:=h5 (List.range (min 6 (d.chords.length / 2)))
 refine ⟨q1,fun s hs=>?_⟩
 have e1:dg ((brN d+s:Nat):Int) (dL5 d)=dg ((brN d+s:Nat):Int) (dL4 d):=q2 s hs
 have e2:=(h4 (stN d) (Nat.le_refl _)).2 s hs
 rw [if_pos hs] at e2
 rw [e1]
 exact e2
theorem dTopo_ok:okT (dTopo d)=true:=by
 obtain ⟨b1,b2,b3⟩:=brN_bd hd
 obtain ⟨s1,s2,s3⟩:=stN_bd hd
 obtain ⟨h1,h2⟩:=dL5_ok hd
 have hsz:sizeP (dTopo d):=by
  refine ⟨?_,?_,h1.s.n⟩
  ·show 2≤((brN d+stN d:Nat):Int)∧((brN d+stN d:Nat):Int)≤12
   omega
  ·show ((dSt d).length:Int)=((brN d+stN d:Nat):Int)
   rw [dSt_len]
 have hsound:soundL (dTopo d)=true:=by
  rw [soundL,List.all_eq_true]
  intro i hi
  have hi:i < (dL5 d).length:=List.mem_range.1 hi
  have hl:lnk (dTopo d) i=(dL5 d)[i]:=by simp [lnk,dTopo,hi]
  have hv:=h1.s.v _ (List.getElem_mem hi)
  rw [hl]
  have hr:=(lkR_iff hd (dL5 d) (dL5 d)[i]).2 hv
  simp only [lkR,Bool.and_eq_true] at hr
  simp only [lkOk,Bool.and_eq_true]
  refine ⟨hr.1,hr.2.1,?_,hr.2.2⟩
  rw [lk3,List.all_eq_true]
  intro m hm
  obtain ⟨j,hj,rfl⟩:=List.mem_iff_getElem.1 hm
  simp only [dTopo,List.length_take] at hj
  have hp:=List.pairwise_iff_getElem.1 h1.s.j j i (by omega) hi (by omega)
  have e:((dTopo d).links.take i)[j]=(dL5 d)[j]:=by simp [dTopo]
  rw [e,hp]; rfl
 have hends:∀ l∈(dTopo d).links,endsP (dTopo d) l:=fun l hl=>by
  have:=h1.s.v l hl
  exact ⟨this.1,this.2.1,this.2.2.1⟩
 have hdeg:degOk (dTopo d)=true:=by
  rw [degOk,List.all_eq_true]
  intro n hn
  have hn:n < brN d+stN d:=by rw [← dSt_len]; exact List.mem_range.1 hn
  have hst:stA (dTopo d) n=decide (brN d≤n∧n < brN d+stN d):=dSt_at n
  rw [hst]
  by_cases hq:brN d≤n
  ·have hdd:iA (degs (dTopo d)) (n:Nat)=dg (n:Nat) (dL5 d):=by
    have h3:=degs_dg (N:=brN d+stN d) (dL5 d) (List.replicate (brN d+stN d) 0) (fun l hl=>by have:=h1.s.v l hl; unfold lkV at this; omega) (by simp) n hn
    have h4:iA (List.replicate (brN d+stN d) (0:Int)) (n:Nat)=0:=by
     simp only [iA,Int.toNat_natCast,List.getElem?_replicate]
     split <;> rfl
    rw [h4,Int.zero_add] at h3
    exact h3
   have h5:=h2 (n - brN d) (by omega)
   have e:((brN d+(n - brN d):Nat):Int)=(n:Nat):=by omega
   rw [e] at h5
   rw [hdd,decide_eq_true h5]; simp
  ·have:decide (brN d≤n∧n < brN d+stN d)=false:=decide_eq_false (fun h=>hq h.1)
   rw [this]; rfl
 have hmem:∀ l∈dL5 d,(⟨l.a.toNat,l.b.toNat,0⟩:Ed)∈kEs (fun _=>false) 0 (dTopo d).links:=fun l hl=>by
  rw [kEs_mem]
  obtain ⟨j,hj⟩:=List.mem_iff_getElem?.1 hl
  exact ⟨j,l,hj,rfl,.inl rfl⟩
 have hbr:∀ n,n < brN d→Cn (kEs (fun _=>false) 0 (dTopo d).links) n 0:=by
  intro n
  induction n with
  | zero=>intro _; exact .refl 0
  | succ n ih =>
   intro hn
   obtain ⟨l,hl,e1,e2⟩:=h1.chain n (by omega)
   have h3:=hmem l hl
   rw [e1,e2,Int.toNat_natCast,Int.toNat_natCast] at h3
   have h4:=kEs_sym _ _ _ h3
   exact .step (e:=⟨n+1,n,0⟩) h4 (ih (by omega))
 have hall:∀ n,n < brN d+stN d→Cn (kEs (fun _=>false) 0 (dTopo d).links) n 0:=by
  intro n hn
  by_cases hq:n < brN d
  ·exact hbr n hq
  ·obtain ⟨l,hl,e1,e2⟩:=h1.home (n - brN d) (by omega)
   have h3:=hmem l hl
   rw [e1,Int.toNat_natCast,show brN d+(n - brN d)=n by omega] at h3
   have h5:=hbr l.b.toNat (by omega)
   exact .step (e:=⟨n,l.b.toNat,0⟩) h3 h5
 have hreach:¬ false∈reachL (dTopo d) 0 (fun _=>false):=by
  intro hf
  obtain ⟨n,hn⟩:=List.mem_iff_getElem?.1 hf
  have hlen:n < (reachL (dTopo d) 0 (fun _=>false)).length:=(List.getElem?_eq_some_iff.1 hn).1
  rw [reachL_len] at hlen
  have hN:(dTopo d).nodes.toNat=brN d+stN d:=by show ((brN d+stN d:Nat):Int).toNat=_; omega
  have:=(reach_spec hends (show 0 < (dTopo d).nodes.toNat by omega) hlen).2 (hall n (by omega))
  rw [hn] at this
  cases this
 simp only [okT,Bool.and_eq_true,Bool.not_eq_true',decide_eq_false_iff_not]
 exact ⟨decide_eq_true hsz,hsound,hdeg,hreach⟩
end
end Go.Proofs.Ytbibdnlbpjnieaa
