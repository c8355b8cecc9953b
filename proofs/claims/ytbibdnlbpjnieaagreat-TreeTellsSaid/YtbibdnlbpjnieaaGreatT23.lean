/- Part 23 of the proof of TreeTells. -/
import Derived.Test.YtbibdnlbpjnieaaGreatT22
set_option linter.all false
set_option maxRecDepth 100000
set_option maxHeartbeats 4000000
namespace Go.Proofs.YtbibdnlbpjnieaaGreat
def setF {α:Type} (f:Nat→α) (i:Nat) (x:α):Nat→α:=fun j=>if j=i then x else f j
theorem q0I {α:Type} {f:Nat→α} {i:Nat} {x:α}:setF f i x i=x:=by simp [setF]
theorem q0F {α:Type} {f:Nat→α} {i j:Nat} {x:α} (h:j≠i):setF f i x j=f j:=by simp [setF,h]
theorem qgX {α:Type} {f:Nat→α} {i:Nat} {x:α} (h:f i=x):setF f i x=f:=by
 funext j
 by_cases hj:j=i
 ·subst hj; rw [q0I,h]
 ·rw [q0F hj]
structure Ed where
 a:Nat
 b:Nat
 w:Int
 deriving DecidableEq
def iter {σ:Type} (f:σ→σ):Nat→σ→σ
 | 0,s=>s
 | n+1,s=>f (iter f n s)
theorem qgY {σ:Type} {f:σ→σ} {s:σ} {k:Nat} (h:f (iter f k s)=iter f k s):∀ j,iter f (k+j) s=iter f k s:=by
 intro j
 induction j with
 | zero=>rfl
 | succ j ih =>
  show f (iter f (k+j) s)=_
  rw [ih,h]
def cnt (N:Nat) (S:Nat→Bool):Nat:=((List.range N).filter S).length
theorem q3P (N:Nat) (S:Nat→Bool):cnt N S≤N:=by
 have:=List.length_filter_le S (List.range N)
 simpa [cnt] using this
theorem q2D (N:Nat) (S:Nat→Bool):cnt (N+1) S=cnt N S+(if S N then 1 else 0):=by
 simp only [cnt,List.range_succ,List.filter_append,List.length_append]
 congr 1
 cases h:S N <;> simp [h]
theorem qgZ {N:Nat} {S S':Nat→Bool} (h:∀ i,i < N→S i=true→S' i=true):cnt N S≤cnt N S':=by
 induction N with
 | zero=>simp [cnt]
 | succ N ih =>
  have h1:=ih (fun i hi=>h i (by omega))
  rw [q2D,q2D]
  have h2:=h N (by omega)
  cases hS:S N with
  | false=>simp; omega
  | true=>simp [h2 hS]; omega
theorem q1F {N:Nat} {S S':Nat→Bool} (h:∀ i,i < N→S i=true→S' i=true) {j:Nat} (hj:j < N) (h1:S j=false) (h2:S' j=true):cnt N S+1≤cnt N S':=by
 induction N with
 | zero=>omega
 | succ N ih =>
  rw [q2D,q2D]
  by_cases hjn:j=N
  ·subst hjn
   have:=qgZ (N:=j) (S:=S) (S':=S') (fun i hi=>h i (by omega))
   simp [h1,h2]; omega
  ·have:=ih (fun i hi=>h i (by omega)) (by omega)
   have h3:=h N (by omega)
   cases hS:S N with
   | false=>simp; omega
   | true=>simp [h3 hS]; omega
def bpE (S:Nat→Bool) (e:Ed):Nat→Bool:=setF S e.a (S e.a || S e.b)
def sprB (E:List Ed) (S:Nat→Bool):Nat→Bool:=E.foldl bpE S
theorem q6L {S:Nat→Bool} {e:Ed} {i:Nat} (h:S i=true):bpE S e i=true:=by
 unfold bpE setF
 split
 ·rename_i h'; subst h'; simp [h]
 ·exact h
theorem q1G:∀ (E:List Ed) {S:Nat→Bool} {i:Nat},S i=true→sprB E S i=true:=by
 intro E
 induction E with
 | nil=>intro S i h; exact h
 | cons e E ih=>intro S i h; exact ih (q6L h)
theorem qh0:∀ (E:List Ed) {S:Nat→Bool} {e:Ed},e∈E→S e.b=true→sprB E S e.a=true:=by
 intro E
 induction E with
 | nil=>intro S e h; cases h
 | cons e' E ih =>
  intro S e h hb
  cases h with
  | head=>exact q1G E (by unfold bpE; rw [q0I,hb,Bool.or_true])
  | tail _ h=>exact ih h (q6L hb)
theorem q6M {N:Nat}:∀ (E:List Ed) (hE:∀ e∈E,e.a < N) {S:Nat→Bool} {i:Nat},N≤i→sprB E S i=S i:=by
 intro E
 induction E with
 | nil=>intro _ S i h; rfl
 | cons e E ih =>
  intro hE S i h
  have h1:=hE e (by simp)
  have:=ih (fun e he=>hE e (by simp [he])) (S:=bpE S e) h
  show sprB E (bpE S e) i=_
  rw [this]
  unfold bpE
  rw [q0F (by omega)]
theorem stab {N:Nat} {E:List Ed} (hE:∀ e∈E,e.a < N) (S:Nat→Bool):sprB E (iter (sprB E) N S)=iter (sprB E) N S:=by
 have step:∀ k,(sprB E (iter (sprB E) k S)=iter (sprB E) k S)∨k+1≤cnt N (iter (sprB E) (k+1) S):=by
  intro k
  induction k with
  | zero =>
   by_cases h:sprB E S=S
   ·exact .inl h
   ·right
    have:∃ j,sprB E S j≠S j:=Classical.byContradiction fun hn=>h (funext fun j=>Classical.byContradiction fun hj=>hn ⟨j,hj⟩)
    obtain ⟨j,hj⟩:=this
    have hjN:j < N:=Nat.lt_of_not_le fun hle=>hj (q6M E hE hle)
    have hf:S j=false:=by
     cases hS:S j with
     | false=>rfl
     | true=>exact absurd (by rw [q1G E hS,hS]) hj
    have ht:sprB E S j=true:=by
     cases hS:sprB E S j with
     | true=>rfl
     | false=>exact absurd (by rw [hS,hf]) hj
    have:=q1F (N:=N) (S:=S) (S':=sprB E S) (fun i _ hi=>q1G E hi) hjN hf ht
    show 0+1≤cnt N (sprB E S)
    omega
  | succ k ih =>
   rcases ih with h|h
   ·left
    show sprB E (sprB E (iter (sprB E) k S))=sprB E (iter (sprB E) k S)
    rw [h,h]
   ·by_cases hs:sprB E (iter (sprB E) (k+1) S)=iter (sprB E) (k+1) S
    ·exact .inl hs
    ·right
     generalize hT:iter (sprB E) (k+1) S=T at *
     have:∃ j,sprB E T j≠T j:=Classical.byContradiction fun hn=>hs (funext fun j=>Classical.byContradiction fun hj=>hn ⟨j,hj⟩)
     obtain ⟨j,hj⟩:=this
     have hjN:j < N:=Nat.lt_of_not_le fun hle=>hj (q6M E hE hle)
     have hf:T j=false:=by
      cases hS:T j with
      | false=>rfl
      | true=>exact absurd (by rw [q1G E hS,hS]) hj
     have ht:sprB E T j=true:=by
      cases hS:sprB E T j with
      | true=>rfl
      | false=>exact absurd (by rw [hS,hf]) hj
     have:=q1F (N:=N) (S:=T) (S':=sprB E T) (fun i _ hi=>q1G E hi) hjN hf ht
     show k+1+1≤cnt N (sprB E (iter (sprB E) (k+1) S))
     rw [hT]
     omega
 rcases step N with h|h
 ·exact h
 ·have:=q3P N (iter (sprB E) (N+1) S); omega
inductive Cn (E:List Ed):Nat→Nat→Prop
 | refl (i:Nat):Cn E i i
 | step {e:Ed} {k:Nat}:e∈E→Cn E e.b k→Cn E e.a k
theorem Cn.trans {E:List Ed} {i j k:Nat} (h1:Cn E i j) (h2:Cn E j k):Cn E i k:=by
 induction h1 with
 | refl=>exact h2
 | step he _ ih=>exact .step he (ih h2)
def symE (E:List Ed):Prop:=∀ e∈E,(⟨e.b,e.a,e.w⟩:Ed)∈E
theorem Cn.symm {E:List Ed} (hs:symE E) {i j:Nat} (h:Cn E i j):Cn E j i:=by
 induction h with
 | refl=>exact .refl _
 | step he _ ih=>exact ih.trans (.step (e:=⟨_,_,_⟩) (hs _ he) (.refl _))
theorem Cn.const {E:List Ed} {α:Type} {f:Nat→α} (hf:∀ e∈E,f e.a=f e.b) {i j:Nat} (h:Cn E i j):f i=f j:=by
 induction h with
 | refl=>rfl
 | step he _ ih=>rw [hf _ he,ih]
theorem Cn.cross {E:List Ed} {P:Nat→Prop} {i j:Nat} (h:Cn E i j) (hi:¬ P i) (hj:P j):∃ e∈E,¬ P e.a∧P e.b:=by
 induction h with
 | refl=>exact absurd hj hi
 | step he _ ih =>
  rename_i e k _
  by_cases hb:P e.b
  ·exact ⟨e,he,hi,hb⟩
  ·exact ih hb hj
def pull (κ:Nat→Int) (f:Nat→Nat) (e:Ed):Nat→Nat:=setF f e.a (if κ (f e.b) < κ (f e.a) then f e.b else f e.a)
def rndR (κ:Nat→Int) (E:List Ed) (f:Nat→Nat):Nat→Nat:=E.foldl (pull κ) f
theorem qh1 (κ:Nat→Int) (f:Nat→Nat) (e:Ed) (x:Int):(fun i=>decide (κ (pull κ f e i)≤x))=bpE (fun i=>decide (κ (f i)≤x)) e:=by
 funext i
 unfold pull bpE setF
 by_cases h:i=e.a
 ·subst h
  simp only [if_true]
  split <;> (rw [Bool.eq_iff_iff]; simp; omega)
 ·simp only [if_neg h]
theorem qh2 (κ:Nat→Int) (x:Int):∀ (E:List Ed) (f:Nat→Nat),(fun i=>decide (κ (rndR κ E f i)≤x))=sprB E (fun i=>decide (κ (f i)≤x)):=by
 intro E
 induction E with
 | nil=>intro f; rfl
 | cons e E ih =>
  intro f
  show (fun i=>decide (κ (rndR κ E (pull κ f e) i)≤x))=sprB E (bpE _ e)
  rw [ih,qh1]
theorem q6N (κ:Nat→Int) (x:Int) (E:List Ed) (f:Nat→Nat):∀ n,(fun i=>decide (κ (iter (rndR κ E) n f i)≤x))=iter (sprB E) n (fun i=>decide (κ (f i)≤x)):=by
 intro n
 induction n with
 | zero=>rfl
 | succ n ih =>
  show (fun i=>decide (κ (rndR κ E (iter (rndR κ E) n f) i)≤x))=sprB E (iter (sprB E) n _)
  rw [qh2,ih]
def roots (κ:Nat→Int) (E:List Ed) (N:Nat):Nat→Nat:=iter (rndR κ E) N id
theorem q6O {κ:Nat→Int} {E:List Ed} {N:Nat} (i:Nat):κ (roots κ E N i)≤κ i:=by
 have h:=congrFun (q6N κ (κ i) E id N) i
 have h0:∀ n,iter (sprB E) n (fun j=>decide (κ (id j)≤κ i)) i=true:=by
  intro n
  induction n with
  | zero=>simp [iter]
  | succ n ih=>exact q1G E ih
 rw [h0] at h
 exact of_decide_eq_true h
theorem q6P {κ:Nat→Int} {E:List Ed} {N:Nat} (hE:∀ e∈E,e.a < N) {e:Ed} (he:e∈E):κ (roots κ E N e.a)≤κ (roots κ E N e.b):=by
 have h:=q6N κ (κ (roots κ E N e.b)) E id N
 have hst:=stab hE (fun i=>decide (κ (id i)≤κ (roots κ E N e.b)))
 rw [← h] at hst
 have hb:(fun i=>decide (κ (iter (rndR κ E) N id i)≤κ (roots κ E N e.b))) e.b=true:=by simp [roots]
 have:=qh0 E (S:=fun i=>decide (κ (iter (rndR κ E) N id i)≤κ (roots κ E N e.b))) he hb
 rw [hst] at this
 exact of_decide_eq_true this
theorem q1H {κ:Nat→Int} {E:List Ed} {N:Nat} (i:Nat):Cn E i (roots κ E N i):=by
 have key:∀ (E':List Ed),(∀ e∈E',e∈E)→∀ f:Nat→Nat,(∀ i,Cn E i (f i))→∀ i,Cn E i (rndR κ E' f i):=by
  intro E'
  induction E' with
  | nil=>intro _ f h; exact h
  | cons e E' ih =>
   intro hm f h
   refine ih (fun e he=>hm e (by simp [he])) (pull κ f e) ?_
   intro i
   unfold pull setF
   split
   ·rename_i h'
    subst h'
    split
    ·exact .step (hm e (by simp)) (h _)
    ·exact h _
   ·exact h _
 have:∀ n i,Cn E i (iter (rndR κ E) n id i):=by
  intro n
  induction n with
  | zero=>intro i; exact .refl _
  | succ n ih=>exact key E (fun _ h=>h) _ ih
 exact this N i
theorem Cn.lt {E:List Ed} {N:Nat} (hE:∀ e∈E,e.a < N∧e.b < N) {i j:Nat} (h:Cn E i j) (hi:i < N):j < N:=by
 induction h with
 | refl=>exact hi
 | step he _ ih=>exact ih (hE _ he).2
theorem q3Q {κ:Nat→Int} {E:List Ed} {N:Nat} (hE:∀ e∈E,e.a < N∧e.b < N) (hs:symE E) (hκ:∀ i j,i < N→j < N→κ i=κ j→i=j):∀ e∈E,roots κ E N e.a=roots κ E N e.b:=by
 intro e he
 have h1:=q6P (κ:=κ) (fun e he=>(hE e he).1) he
 have h2:=q6P (κ:=κ) (e:=⟨e.b,e.a,e.w⟩) (fun e he=>(hE e he).1) (hs e he)
 have:=(q1H (κ:=κ) (E:=E) (N:=N) e.a).lt hE (hE e he).1
 have:=(q1H (κ:=κ) (E:=E) (N:=N) e.b).lt hE (hE e he).2
 exact hκ _ _ (by assumption) (by assumption) (by simp only at h1 h2; omega)
def rlx (d:Nat→Int) (e:Ed):Nat→Int:=setF d e.a (min (d e.a) (d e.b+e.w))
def rndD (E:List Ed) (d:Nat→Int):Nat→Int:=E.foldl rlx d
theorem q3R {d:Nat→Int} {e:Ed} (i:Nat):rlx d e i≤d i:=by
 unfold rlx setF
 split
 ·rename_i h; subst h; omega
 ·omega
theorem q1I:∀ (E:List Ed) {d:Nat→Int} (i:Nat),rndD E d i≤d i:=by
 intro E
 induction E with
 | nil=>intro d i; exact Int.le_refl _
 | cons e E ih=>intro d i; exact Int.le_trans (ih i) (q3R i)
theorem q3S:∀ (E:List Ed) {d:Nat→Int} {e:Ed},e∈E→rndD E d e.a≤d e.b+e.w:=by
 intro E
 induction E with
 | nil=>intro d e h; cases h
 | cons e' E ih =>
  intro d e h
  cases h with
  | head=>refine Int.le_trans (q1I E e'.a) ?_; unfold rlx; rw [q0I]; omega
  | tail _ h=>refine Int.le_trans (ih h) ?_; have:=q3R (d:=d) (e:=e') e.b; omega
theorem q6Q {E0:List Ed} {d0:Nat→Int}:∀ (E:List Ed),(∀ e∈E,e∈E0∧e.a≠e.b)→∀ {d:Nat→Int},(∀ i,d i=d0 i∨∃ e∈E0,e.a=i∧d e.b+e.w≤d i)→∀ i,rndD E d i=d0 i∨∃ e∈E0,e.a=i∧rndD E d e.b+e.w≤rndD E d i:=by
 intro E
 induction E with
 | nil=>intro _ d h; exact h
 | cons e' E ih =>
  intro hm d h
  refine ih (fun e he=>hm e (by simp [he])) (d:=rlx d e') ?_
  intro i
  have hle:=q3R (d:=d) (e:=e')
  by_cases hi:i=e'.a
  ·subst hi
   have hv:rlx d e' e'.a=min (d e'.a) (d e'.b+e'.w):=by unfold rlx; rw [q0I]
   by_cases hm':d e'.b+e'.w < d e'.a
   ·right
    refine ⟨e',(hm e' (by simp)).1,rfl,?_⟩
    have:=hle e'.b
    omega
   ·rcases h e'.a with h1|⟨e,he,h1,h2⟩
    ·left; omega
    ·right; refine ⟨e,he,h1,?_⟩; have:=hle e.b; omega
  ·have hv:rlx d e' i=d i:=by unfold rlx; rw [q0F hi]
   rcases h i with h1|⟨e,he,h1,h2⟩
   ·left; omega
   ·right; refine ⟨e,he,h1,?_⟩; have:=hle e.b; omega
theorem q6R {N:Nat}:∀ (E:List Ed) (hE:∀ e∈E,e.a < N) {d:Nat→Int} {i:Nat},N≤i→rndD E d i=d i:=by
 intro E
 induction E with
 | nil=>intro _ d i h; rfl
 | cons e E ih =>
  intro hE d i h
  have h1:=hE e (by simp)
  have:=ih (fun e he=>hE e (by simp [he])) (d:=rlx d e) h
  show rndD E (rlx d e) i=_
  rw [this]
  unfold rlx
  rw [q0F (by omega)]
theorem q3T:∀ (E:List Ed),(∀ e∈E,1≤e.w)→∀ {d:Nat→Int},(∀ i,0≤d i)→∀ i,0≤rndD E d i:=by
 intro E
 induction E with
 | nil=>intro _ d h; exact h
 | cons e E ih =>
  intro hw d h
  refine ih (fun e he=>hw e (by simp [he])) ?_
  intro i
  unfold rlx setF
  have h1:=hw e (by simp)
  have h2:=h e.b
  have h3:=h e.a
  split
  ·omega
  ·exact h i
def sumN (N:Nat) (d:Nat→Int):Nat:=((List.range N).map fun i=>(d i).toNat).foldl (· + ·) 0
theorem q2E (N:Nat) (d:Nat→Int):sumN (N+1) d=sumN N d+(d N).toNat:=by simp [sumN,List.range_succ]
theorem qh3 {N:Nat} {d d':Nat→Int} (h:∀ i,d i≤d' i):sumN N d≤sumN N d':=by
 induction N with
 | zero=>simp [sumN]
 | succ N ih=>rw [q2E,q2E]; have:=h N; omega
theorem q6S {N:Nat} {d d':Nat→Int} (h:∀ i,d i≤d' i) {j:Nat} (hj:j < N) (h0:0≤d j) (hlt:d j < d' j):sumN N d < sumN N d':=by
 induction N with
 | zero=>omega
 | succ N ih =>
  rw [q2E,q2E]
  by_cases hjn:j=N
  ·subst hjn
   have:=qh3 (N:=j) h
   omega
  ·have:=ih (by omega)
   have:=h N
   omega
section
variable {N:Nat} {E:List Ed} (hE:∀ e∈E,e.a < N∧e.b < N∧e.a≠e.b∧1≤e.w) {d0:Nat→Int} (h0:∀ i,0≤d0 i)
include hE h0
theorem q3U:∀ n i,0≤iter (rndD E) n d0 i:=by
 intro n
 induction n with
 | zero=>exact h0
 | succ n ih=>exact q3T E (fun e he=>(hE e he).2.2.2) ih
theorem limit:∃ k,rndD E (iter (rndD E) k d0)=iter (rndD E) k d0:=by
 have key:∀ (m k:Nat),sumN N (iter (rndD E) k d0)≤m→∃ k,rndD E (iter (rndD E) k d0)=iter (rndD E) k d0:=by
  intro m
  induction m with
  | zero =>
   intro k hk
   refine ⟨k,funext fun j=>Classical.byContradiction fun hj=>?_⟩
   have hjN:j < N:=Nat.lt_of_not_le fun hle=>hj (q6R E (fun e he=>(hE e he).1) hle)
   have:=q6S (N:=N) (fun i=>q1I E (d:=iter (rndD E) k d0) i) hjN (q3T E (fun e he=>(hE e he).2.2.2) (q3U hE h0 k) j) (by have:=q1I E (d:=iter (rndD E) k d0) j; omega)
   omega
  | succ m ih =>
   intro k hk
   by_cases hf:rndD E (iter (rndD E) k d0)=iter (rndD E) k d0
   ·exact ⟨k,hf⟩
   ·have:∃ j,rndD E (iter (rndD E) k d0) j≠iter (rndD E) k d0 j:=Classical.byContradiction fun hn=>hf (funext fun j=>Classical.byContradiction fun hj=>hn ⟨j,hj⟩)
    obtain ⟨j,hj⟩:=this
    have hjN:j < N:=Nat.lt_of_not_le fun hle=>hj (q6R E (fun e he=>(hE e he).1) hle)
    have:=q6S (N:=N) (fun i=>q1I E (d:=iter (rndD E) k d0) i) hjN (q3T E (fun e he=>(hE e he).2.2.2) (q3U hE h0 k) j) (by have:=q1I E (d:=iter (rndD E) k d0) j; omega)
    exact ih (k+1) (by show sumN N (rndD E (iter (rndD E) k d0))≤m; omega)
 exact key _ 0 (Nat.le_refl _)
omit hE h0 in
theorem q3V:∀ (m n:Nat) (i:Nat),n≤m→iter (rndD E) m d0 i≤iter (rndD E) n d0 i:=by
 intro m
 induction m with
 | zero=>intro n i h; have:n=0:=by omega
         subst this; exact Int.le_refl _
 | succ m ih =>
  intro n i h
  by_cases hn:n=m+1
  ·subst hn; exact Int.le_refl _
  ·exact Int.le_trans (q1I E i) (ih n i (by omega))
theorem settled:∃ L:Nat→Int,(∀ i,i < N→iter (rndD E) N d0 i=L i)∧(∀ i,0≤L i∧L i≤d0 i)∧(∀ e∈E,L e.a≤L e.b+e.w)∧(∀ i,L i=d0 i∨∃ e∈E,e.a=i∧L i=L e.b+e.w):=by
 obtain ⟨K,hK⟩:=limit hE h0
 refine ⟨iter (rndD E) K d0,?_,fun i=>⟨q3U hE h0 K i,q3V K 0 i (by omega)⟩,?_,?_⟩
 rotate_left
 ·intro e he
  have:=q3S E (d:=iter (rndD E) K d0) he
  rwa [hK] at this
 ·have inv:∀ n i,iter (rndD E) n d0 i=d0 i∨∃ e∈E,e.a=i∧iter (rndD E) n d0 e.b+e.w≤iter (rndD E) n d0 i:=by
   intro n
   induction n with
   | zero=>intro i; exact .inl rfl
   | succ n ih=>exact q6Q E (fun e he=>⟨he,(hE e he).2.2.1⟩) ih
  intro i
  rcases inv K i with h|⟨e,he,h1,h2⟩
  ·exact .inl h
  ·right
   refine ⟨e,he,h1,?_⟩
   have:=q3S E (d:=iter (rndD E) K d0) he
   rw [hK,h1] at this
   omega
 ·have hge:∀ n i,iter (rndD E) K d0 i≤iter (rndD E) n d0 i:=by
   intro n i
   by_cases hn:n≤K
   ·exact q3V K n i hn
   ·have:=qgY hK (n - K)
    rw [show K+(n - K)=n by omega] at this
    rw [this]; exact Int.le_refl _
  have inv:∀ n i,iter (rndD E) n d0 i=d0 i∨∃ e∈E,e.a=i∧iter (rndD E) n d0 e.b+e.w≤iter (rndD E) n d0 i:=by
   intro n
   induction n with
   | zero=>intro i; exact .inl rfl
   | succ n ih=>exact q6Q E (fun e he=>⟨he,(hE e he).2.2.1⟩) ih
  have main:∀ n i,i < N→cnt N (fun j=>decide (iter (rndD E) K d0 j < iter (rndD E) K d0 i))≤n→iter (rndD E) n d0 i=iter (rndD E) K d0 i:=by
   intro n
   induction n with
   | zero =>
    intro i hi hc
    rcases inv K i with h|⟨e,he,h1,h2⟩
    ·exact h.symm
    ·exfalso
     have hw:=(hE e he).2.2.2
     have:=q1F (N:=N) (S:=fun _=>false) (S':=fun j=>decide (iter (rndD E) K d0 j < iter (rndD E) K d0 i)) (fun _ _ h=>by simp at h) (hE e he).2.1 rfl (decide_eq_true (by omega))
     omega
   | succ n ih =>
    intro i hi hc
    have hg:=hge (n+1) i
    rcases inv K i with h|⟨e,he,h1,h2⟩
    ·have h4:iter (rndD E) (n+1) d0 i≤d0 i:=q3V (E:=E) (d0:=d0) (n+1) 0 i (by omega)
     omega
    ·have hw:=(hE e he).2.2.2
     have hlt:cnt N (fun j=>decide (iter (rndD E) K d0 j < iter (rndD E) K d0 e.b))+1≤cnt N (fun j=>decide (iter (rndD E) K d0 j < iter (rndD E) K d0 i)) :=
      q1F (fun j _ hj=>by have:=of_decide_eq_true hj; exact decide_eq_true (by omega)) (hE e he).2.1 (decide_eq_false (by omega)) (decide_eq_true (by omega))
     have hb:=ih e.b (hE e he).2.1 (by omega)
     have:=q3S E (d:=iter (rndD E) n d0) he
     rw [h1,hb] at this
     have h3:iter (rndD E) (n+1) d0 i=rndD E (iter (rndD E) n d0) i:=rfl
     omega
  intro i hi
  exact main N i hi (q3P _ _)
end
structure Dst (κ:Nat→Int) (E:List Ed) (N:Nat) (F:Nat→Nat) (D:Nat→Int):Prop where
 edge:∀ e∈E,D e.a≤D e.b+e.w
 top:∀ i,i < N→F i=i→D i=0
 nn:∀ i,i < N→0≤D i
 par:∀ i,i < N→F i≠i→∃ e∈E,e.a=i∧D i=D e.b+e.w
theorem Dst.le {κ:Nat→Int} {E:List Ed} {N:Nat} {F:Nat→Nat} {D D':Nat→Int} (hE:∀ e∈E,e.a < N∧e.b < N∧e.a≠e.b∧1≤e.w) (h:Dst κ E N F D) (h':Dst κ E N F D'):∀ (n i:Nat),i < N→D' i≤n→D i≤D' i:=by
 intro n
 induction n with
 | zero =>
  intro i hi hn
  by_cases hF:F i=i
  ·rw [h.top i hi hF,h'.top i hi hF]; exact Int.le_refl _
  ·obtain ⟨e,he,h1,h2⟩:=h'.par i hi hF
   have:=h'.nn e.b (hE e he).2.1
   have:=(hE e he).2.2.2
   omega
 | succ n ih =>
  intro i hi hn
  by_cases hF:F i=i
  ·rw [h.top i hi hF,h'.top i hi hF]; exact Int.le_refl _
  ·obtain ⟨e,he,h1,h2⟩:=h'.par i hi hF
   have h3:=(hE e he).2.2.2
   have h4:=ih e.b (hE e he).2.1 (by omega)
   have h5:=h.edge e he
   rw [h1] at h5
   omega
theorem Dst.eq {κ:Nat→Int} {E:List Ed} {N:Nat} {F:Nat→Nat} {D D':Nat→Int} (hE:∀ e∈E,e.a < N∧e.b < N∧e.a≠e.b∧1≤e.w) (h:Dst κ E N F D) (h':Dst κ E N F D') (i:Nat) (hi:i < N):D i=D' i:=by
 have h1:=h.le hE h' (D' i).toNat i hi (by omega)
 have h2:=h'.le hE h (D i).toNat i hi (by omega)
 omega
theorem q6T {κ:Nat→Int} {E:List Ed} {N:Nat} {W far:Int} (hE:∀ e∈E,e.a < N∧e.b < N∧e.a≠e.b∧1≤e.w) (hW:∀ e∈E,e.w≤W) (hW0:0≤W) (hf0:0 < far) (hfar:W*((N:Int) - 1) < far) (hs:symE E) (hκ:∀ i j,i < N→j < N→κ i=κ j→i=j) :
  Dst κ E N (roots κ E N) (iter (rndD E) N (fun i=>if roots κ E N i=i then 0 else far))∧∀ i,i < N→iter (rndD E) N (fun i=>if roots κ E N i=i then 0 else far) i≤W*((N:Int) - 1):=by
 have hsame:=q3Q (κ:=κ) (fun e he=>⟨(hE e he).1,(hE e he).2.1⟩) hs hκ
 obtain ⟨L,hL,hb,he,hp⟩:=settled (N:=N) hE (d0:=fun i=>if roots κ E N i=i then 0 else far) (fun i=>by split <;> omega)
 have lvlt:∀ i j,i < N→j < N→L i < L j→cnt N (fun k=>decide (L k < L i))+1≤cnt N (fun k=>decide (L k < L j)):=fun i j hi hj h =>
  q1F (fun k _ hk=>by have:=of_decide_eq_true hk; exact decide_eq_true (by omega)) hi (decide_eq_false (by omega)) (decide_eq_true h)
 have lvN:∀ i,i < N→cnt N (fun k=>decide (L k < L i))+1≤N:=by
  intro i hi
  have:=q1F (N:=N) (S:=fun k=>decide (L k < L i)) (S':=fun _=>true) (fun _ _ _=>rfl) hi (decide_eq_false (by omega)) rfl
  have:=q3P N (fun _=>true)
  omega
 have bound:∀ (n j:Nat),j < N→cnt N (fun k=>decide (L k < L j))≤n→L j < far→L j≤W*(cnt N (fun k=>decide (L k < L j)):Nat):=by
  intro n
  induction n with
  | zero =>
   intro j hj hc hl
   rcases hp j with h|⟨e,hee,h1,h2⟩
   ·have:L j=0:=by
     have h':L j=if roots κ E N j=j then 0 else far:=h
     split at h' <;> omega
    rw [this]
    exact Int.mul_nonneg hW0 (by omega)
   ·exfalso
    have:=lvlt e.b j (hE e hee).2.1 hj (by have:=(hE e hee).2.2.2; omega)
    omega
  | succ n ih =>
   intro j hj hc hl
   rcases hp j with h|⟨e,hee,h1,h2⟩
   ·have:L j=0:=by
     have h':L j=if roots κ E N j=j then 0 else far:=h
     split at h' <;> omega
    rw [this]
    exact Int.mul_nonneg hW0 (by omega)
   ·have hw:=(hE e hee).2.2.2
    have hlt:=lvlt e.b j (hE e hee).2.1 hj (by omega)
    have h3:=ih e.b (hE e hee).2.1 (by omega) (by omega)
    have h4:=hW e hee
    have h5:W*(cnt N (fun k=>decide (L k < L e.b)):Nat)+W≤W*(cnt N (fun k=>decide (L k < L j)):Nat):=by
     have:W*((cnt N (fun k=>decide (L k < L e.b))+1:Nat):Int)≤W*(cnt N (fun k=>decide (L k < L j)):Nat):=Int.mul_le_mul_of_nonneg_left (by omega) hW0
     rw [Int.natCast_add,Int.mul_add] at this
     simpa using this
    omega
 have hroot:∀ i,roots κ E N (roots κ E N i)=roots κ E N i:=fun i=>((q1H (κ:=κ) (E:=E) (N:=N) i).const (f:=roots κ E N) hsame).symm
 have hall:∀ i,i < N→L i < far:=by
  intro i hi
  refine Classical.byContradiction fun hn=>?_
  have hr:L (roots κ E N i) < far:=by
   have:=(hb (roots κ E N i)).2
   simp only [hroot,if_true] at this
   omega
  obtain ⟨e,hee,h1,h2⟩:=(q1H (κ:=κ) (E:=E) (N:=N) i).cross (P:=fun j=>L j < far) hn hr
  have h3:=he e hee
  have h4:=bound _ e.b (hE e hee).2.1 (Nat.le_refl _) h2
  have h5:=lvlt e.b e.a (hE e hee).2.1 (hE e hee).1 (by omega)
  have h6:=lvN e.a (hE e hee).1
  have h7:=hW e hee
  have h8:W*(cnt N (fun k=>decide (L k < L e.b)):Nat)+W≤W*((N:Int) - 1):=by
   have:W*((cnt N (fun k=>decide (L k < L e.b))+1:Nat):Int)≤W*((N:Int) - 1):=Int.mul_le_mul_of_nonneg_left (by omega) hW0
   rw [Int.natCast_add,Int.mul_add] at this
   simpa using this
  omega
 refine ⟨⟨?_,?_,?_,?_⟩,?_⟩
 ·intro e hee
  rw [hL _ (hE e hee).1,hL _ (hE e hee).2.1]
  exact he e hee
 ·intro i hi hF
  rw [hL i hi]
  have:=hb i
  simp only [hF,if_true] at this
  omega
 ·intro i hi
  rw [hL i hi]
  exact (hb i).1
 ·intro i hi hF
  rcases hp i with h|⟨e,hee,h1,h2⟩
  ·have h':L i=if roots κ E N i=i then 0 else far:=h
   rw [if_neg hF] at h'
   have:=hall i hi
   omega
  ·refine ⟨e,hee,h1,?_⟩
   rw [hL i hi,hL _ (hE e hee).2.1,h2]
 ·intro i hi
  rw [hL i hi]
  have h1:=bound _ i hi (Nat.le_refl _) (hall i hi)
  have h2:=lvN i hi
  have h3:W*((cnt N (fun k=>decide (L k < L i)):Nat):Int)≤W*((N:Int) - 1):=Int.mul_le_mul_of_nonneg_left (by omega) hW0
  omega
end Go.Proofs.YtbibdnlbpjnieaaGreat
namespace Go.Proofs.YtbibdnlbpjnieaaGreat
structure Msg where
 r:Int
 c:Int
 s:Int
 p:Int
 g:Int
def mlt (x y:Msg):Prop:=x.r < y.r∨x.r=y.r∧(x.c < y.c∨x.c=y.c∧(x.s < y.s∨x.s=y.s∧x.p < y.p))
instance (x y:Msg):Decidable (mlt x y):=inferInstanceAs (Decidable (_∨_))
structure Top where
 r:Int
 c:Int
 via:Option Nat
 g:Int
def clmM (t:Top) (k:Int) (q:Nat):Msg:=⟨t.r,t.c,k,(q:Nat),t.g⟩
def roleM (h:Option Msg) (t:Top) (k:Int) (q:Nat):Int:=if t.via=some q then 1 else if h=none∨∃ m,h=some m∧mlt (clmM t k q) m then 2 else 3
def rcvM:Option Msg→Option Msg→Option Msg
 | o,none=>o
 | none,some h=>some h
 | some o,some h=>if (o.s=h.s∧o.p=h.p)∨¬ mlt o h then some h else some o
def tickM:Option Msg→Option Msg
 | none=>none
 | some m=>if 20 < m.g+1 then none else some ⟨m.r,m.c,m.s,m.p,m.g+1⟩
def lx3 (a b c a' b' c':Int):Prop:=a < a'∨a=a'∧(b < b'∨b=b'∧c < c')
instance (a b c a' b' c':Int):Decidable (lx3 a b c a' b' c'):=inferInstanceAs (Decidable (_∨_))
structure Net where
 N:Nat
 U:Nat→Prop
 fr:Nat→Nat
 to:Nat→Nat
 bk:Nat→Nat
 per:Nat→Int
 κ:Nat→Int
 F:Nat→Nat
 D:Nat→Int
 bst:Nat→Nat
structure NetOk (X:Net):Prop where
 fr:∀ q,X.U q→X.fr q < X.N
 to:∀ q,X.U q→X.to q < X.N
 bk:∀ q,X.U q→X.U (X.bk q)∧X.fr (X.bk q)=X.to q∧X.to (X.bk q)=X.fr q∧X.bk (X.bk q)=q∧X.per (X.bk q)=X.per q
 per:∀ q,X.U q→1≤X.per q
 ne:∀ q,X.U q→X.fr q≠X.to q
 inj:∀ i j,i < X.N→j < X.N→X.κ i=X.κ j→i=j
 same:∀ q,X.U q→X.F (X.fr q)=X.F (X.to q)
 le:∀ i,i < X.N→X.κ (X.F i)≤X.κ i∧X.F i < X.N
 edge:∀ q,X.U q→X.D (X.fr q)≤X.D (X.to q)+X.per q
 root:∀ i,i < X.N→X.F i=i→X.D i=0
 nn:∀ i,i < X.N→0≤X.D i
 bd:∀ i,i < X.N→X.D i≤1048576
 N:X.N≤12
 bst:∀ i,i < X.N→X.F i≠i→X.U (X.bst i)∧X.fr (X.bst i)=i∧X.D i=X.D (X.to (X.bst i))+X.per (X.bst i) ∧
  ∀ q,X.U q→X.fr q=i→q≠X.bst i→lx3 (X.D (X.to (X.bst i))+X.per (X.bst i)) (X.κ (X.to (X.bst i))) (X.bk (X.bst i):Nat) (X.D (X.to q)+X.per q) (X.κ (X.to q)) (X.bk q:Nat)
def leadsM (X:Net) (H:Nat→Option Msg) (q:Nat) (m:Msg):Prop:=H q=some m∧m.c+X.per q≤1048576∧m.r < X.κ (X.fr q)
def offM (X:Net) (q:Nat) (m:Msg):Msg:=⟨m.r,m.c+X.per q,m.s,m.p,m.g⟩
def TopOk (X:Net) (H:Nat→Option Msg) (n:Nat) (t:Top):Prop :=
 (t=⟨X.κ n,0,none,0⟩∧∀ q m,X.U q→X.fr q=n→¬ leadsM X H q m) ∨
 ∃ q m,X.U q∧X.fr q=n∧leadsM X H q m∧t=⟨m.r,m.c+X.per q,some q,m.g⟩∧∀ q' m',X.U q'→X.fr q'=n→leadsM X H q' m'→¬ mlt (offM X q' m') (offM X q m)
def sentM (h:Option Msg) (t:Top) (k:Int) (q:Nat):Option Msg:=if roleM h t k q=2 then some (clmM t k q) else none
def goalM (X:Net) (q:Nat):Int:=if X.F (X.fr q)≠X.fr q∧q=X.bst (X.fr q) then 1 else
 if lx3 (X.D (X.fr q)) (X.κ (X.fr q)) (q:Nat) (X.D (X.to q)) (X.κ (X.to q)) (X.bk q:Nat) then 2 else 3
structure Real (X:Net) (q:Nat) (m:Msg):Prop where
 s:m.s=X.κ (X.to q)
 p:m.p=(X.bk q:Nat)
 r:X.κ (X.F (X.to q))≤m.r
 c:m.r=X.κ (X.F (X.to q))→X.D (X.to q)≤m.c
section
variable (X:Net) (ok:NetOk X) (H:Nat→Nat→Option Msg) (t:Nat→Nat→Top)
 (hg:∀ T q m,X.U q→H T q=some m→0≤m.g∧m.g≤20)
 (ht:∀ T q,X.U q→TopOk X (H T) (X.fr q) (t T (X.fr q)))
 (hs:∀ T q,X.U q→H (T+1) q=tickM (rcvM (H T q) (sentM (H T (X.bk q)) (t T (X.to q)) (X.κ (X.to q)) (X.bk q))))
include ok in
include ok hg ht hs in
include ok hg ht hs in
include ok hg ht hs in
include ok hg ht hs in
include ok hg ht hs in
end
end Go.Proofs.YtbibdnlbpjnieaaGreat
namespace Go.Proofs.YtbibdnlbpjnieaaGreat
open Go Go.Abs
theorem lex1 (a a':Int) (l l':List Int):cmpL (a::l) (a'::l') < 0↔a < a'∨a=a'∧cmpL l l' < 0:=by
 simp only [cmpL,cmp3]
 by_cases h1:a < a'
 ·simp [h1]
 ·by_cases h2:a' < a
  ·simp only [if_neg h1,if_pos h2]
   constructor
   ·intro h; simp at h
   ·rintro (h|⟨h,_⟩) <;> omega
  ·obtain rfl:a=a':=by omega
   simp
theorem lex0:¬ (cmpL [] [] < 0):=by simp [cmpL]
def num (h:Hd):Int:=((((16*h.a+h.b)*4194304+h.c)*16+h.d)*16+h.e)*64+h.f
structure Bnd (h:Hd):Prop where
 a:0≤h.a∧h.a < 16
 b:0≤h.b∧h.b < 16
 c:0≤h.c∧h.c < 4194304
 d:0≤h.d∧h.d < 16
 e:0≤h.e∧h.e < 16
 f:0≤h.f∧h.f < 64
theorem qh4 {x y:Hd} (hx:Bnd x) (hy:Bnd y):lt6 x y < 0↔num x < num y:=by
 obtain ⟨a1,b1,c1,d1,e1,f1⟩:=hx
 obtain ⟨a2,b2,c2,d2,e2,f2⟩:=hy
 simp only [lt6,lex1,lex0,and_false,or_false,num]
 generalize x.a=xa at *
 generalize x.b=xb at *
 generalize x.c=xc at *
 generalize x.d=xd at *
 generalize x.e=xe at *
 generalize x.f=xf at *
 generalize y.a=ya at *
 generalize y.b=yb at *
 generalize y.c=yc at *
 generalize y.d=yd at *
 generalize y.e=ye at *
 generalize y.f=yf at *
 omega
end Go.Proofs.YtbibdnlbpjnieaaGreat
namespace Go.Proofs.YtbibdnlbpjnieaaGreat
open Go Go.Abs
def asV (w:Nw) (r:Nat→Nat→Int) (n p:Nat):Int:=if dnA w (p / 2)=true then 0 else if stA w.t (toP w.t p).toNat=true then 2 else r n p
def asQ (w:Nw) (r:Nat→Nat→Int) (n:Nat) (s:List Int × Nat) (p:Nat):List Int × Nat:=(s.1.set p (asV w r n p),2*w.t.links.length)
def asN (w:Nw) (r:Nat→Nat→Int) (s:List Int × Nat) (n:Nat):List Int × Nat:=(portsL w.t n).foldl (asQ w r n) s
def asI (w:Nw) (s:List Int × Nat):Prop:=s.1.length=2*w.t.links.length∧s.2≤2*w.t.links.length
theorem q6U {w:Nw} {r:Nat→Nat→Int} {n p:Nat} {s:List Int × Nat} (h:asI w s):asI w (asQ w r n s p):=⟨by simp [asQ,h.1],Nat.le_refl _⟩
theorem q6V {w:Nw} {r:Nat→Nat→Int} {n:Nat}:∀ {s:List Int × Nat},asI w s→asI w (asN w r s n):=by
 unfold asN
 intro s
 induction portsL w.t n generalizing s with
 | nil=>intro h; exact h
 | cons p l ih=>intro h; rw [List.foldl_cons]; exact ih (q6U h)
section
variable (f:Fl) (w:Nw) (g:FuncId) (cap:List T) (r:Nat→Nat→Int)
noncomputable def lpAs (rf:Code × Code) (E:FEnv) (busy:Bool):AObj:=.loop 42 (lpEnv 61 (tidyF (some [2,3,5]) E)) [18,19] rf.1 rf.2 busy none
noncomputable def hpAs (w:Nw) (rf:Code × Code) (E:FEnv) (busy:Bool) (s:List Int × Nat):Heap :=
 [.row 1 ((s.1.map I).map .t) s.2,.row 1 [.ms 0 (2*w.t.links.length) 0 (2*w.t.links.length) 1 true] 1,lpAs rf E busy]
theorem q6W (rf:Code × Code) (E:FEnv) (hE:E 2=.t (.ip (nwC f w))∧E 3=.t (.ip [.fn (.func g) [] cap])∧E 5=.ref 1 1 0 0) (busy:Bool) (h:Heap) (q:Nat) (hq:3≤q):frzObj h (fromB q) (lpAs rf E busy)=some (lpAs rf E busy):=by
 have f1:decide (q≤1)=false:=decide_eq_false (by omega)
 rw [lpAs,q0y]
 simp only [go_sem,hE,f1]
theorem qh5 (rf:Code × Code) (E:FEnv) (hE:E 2=.t (.ip (nwC f w))∧E 3=.t (.ip [.fn (.func g) [] cap])∧E 5=.ref 1 1 0 0) (busy:Bool) (s:List Int × Nat) (h:Heap) (q:Nat) (hq:3≤q):mapO (frzObj h (fromB q)) (hpAs w rf E busy s)=some (hpAs w rf E busy s):=by
 have f0:decide (q≤0)=false:=decide_eq_false (by omega)
 have a1:avoidAll (fromB q) [.ms 0 (2*w.t.links.length) 0 (2*w.t.links.length) 1 true]=true:=by simp [avoidAll,avoid,fromB]; omega
 simp only [hpAs,mapO,q6W f w g cap rf E hE busy h q hq,q0a,q0h a1]
variable (hok:okT w.t=true) (hbl:(w.bs.length:Int)=w.t.nodes) (hdl:w.down.length=w.t.links.length)
 (hgi:pol.inl g 42 33=false) (hgf:pol.fresh g 42 33=false)
 (hg:∀ n p,n < w.bs.length→stA w.t n=false→p∈trunkL w.t n→dnA w (p / 2)=false→ans Tryz.prog pol g (I (n:Nat)::I (p:Nat)::cap)=some (I (r n p)))
include hok hbl hdl hgi hgf hg
theorem qh6 (rf:Code × Code) (E:FEnv) (hE:E 2=.t (.ip (nwC f w))∧E 3=.t (.ip [.fn (.func g) [] cap])∧E 5=.ref 1 1 0 0) (x:List T) (n:Nat) (hn:n < w.bs.length) (hnn:stA w.t n=false)
  (s:List Int × Nat) (hs:asI w s) (dd nn:Nat) (hnn':200 < nn) (R:Xit→FEnv→Heap→Prop) (e:FEnv)
  (he:e 2=.t (.ip (nwC f w))∧e 3=.t (.ip [.fn (.func g) [] cap])∧e 5=.ref 1 1 0 0∧e 6=.t (I (n:Nat))∧e 22=.t (.sl false 1 (((portsL w.t n).map ofN).map I))∧e 23=.t (I ((portsL w.t n).length:Nat))∧e 24=.t (I 0))
  (hR:∀ e,(e 2=.t (.ip (nwC f w))∧e 3=.t (.ip [.fn (.func g) [] cap])∧e 5=.ref 1 1 0 0)→R (.exit 2) e (hpAs w rf E true (asN w r s n)++[.row 5 [.t (.agg x)] 1])) :
  wpIter 4 (some [2,3,5,6,22,23,24]) (wc Tryz.prog pol (ans Tryz.prog pol) (inl Tryz.prog pol (ans Tryz.prog pol) nn dd) nn 42 il42l0) R nn e (hpAs w rf E true s++[.row 5 [.t (.agg x)] 1]):=by
 obtain ⟨z1,z2,z3⟩:=q02 hok
 have hpl:=q1f w.t n
 refine q06 (portsL w.t n) (fun p=>I (ofN p)) (step:=fun _ p s=>.go (asQ w r n s p)) (fin:=id)
  (St:=fun i s e h=>(e 2=.t (.ip (nwC f w))∧e 3=.t (.ip [.fn (.func g) [] cap])∧e 5=.ref 1 1 0 0∧e 6=.t (I (n:Nat))∧e 22=.t (.sl false 1 (((portsL w.t n).map ofN).map I))∧e 23=.t (I ((portsL w.t n).length:Nat))∧e 24=.t (I (i:Nat)))∧asI w s∧h=hpAs w rf E true s++[.row 5 [.t (.agg x)] 1])
  (Ex:=fun s x' e h=>(e 2=.t (.ip (nwC f w))∧e 3=.t (.ip [.fn (.func g) [] cap])∧e 5=.ref 1 1 0 0)∧x'=.exit 2∧h=hpAs w rf E true s++[.row 5 [.t (.agg x)] 1]) (s:=s) (by omega) ?_ ?_ (by omega) ⟨he,hs,rfl⟩ ?_
 ·intro i p ss e hp Y R hm hi hx hget hlt hw ⟨hs',hI,hhp⟩ hk
  subst hhp
  simp only [q01] at hk
  have hI2:=q6U (r:=r) (n:=n) (p:=p) hI
  have hplt:p < 2*w.t.links.length:=q1e hm
  have hget':(((portsL w.t n).map ofN).map I)[i]? = some (I (ofN p)):=by simp [hx]
  have k2:=q1B f w p hok hplt
  obtain ⟨g1,q1⟩:=q0A w.t z2 (q0v hok hplt)
  have hj:p / 2 < w.down.length:=by omega
  have g2:(w.down.map B)[p / 2]? = some (B (dnA w (p / 2))):=by simp [dnA,hj]
  have v2:IntKind.i64.wrap (Int.tdiv (p:Nat) 2)=((p / 2:Nat):Int):=by rw [tdiv2]; exact q09 (by omega) (by omega)
  obtain ⟨s,mr⟩:=ss
  obtain ⟨hI3,hI4⟩:=hI
  dsimp only at hI3 hI4
  have hsl:((s.map I).map AV.t).length=2*w.t.links.length:=by simp [hI3]
  obtain ⟨y,hy⟩:∃ y,s[p]? = some y:=⟨s[p]'(by omega),by simp [show p < s.length by omega]⟩
  have gx:((s.map I).map AV.t)[p]? = some (.t (I y)):=q0c (enc:=I) hy
  have hset:=map_set (enc:=I) (l:=s) (i:=p) (x:=asV w r n p)
  have hsl2:2*w.t.links.length≤2*w.t.links.length:=Nat.le_refl _
  have fzl:∀ hx:Heap,frzObj hx (fromB 4) (lpAs rf E true)=some (lpAs rf E true):=fun hx=>q6W f w g cap rf E hE true hx 4 (by omega)
  simp only [asQ,hpAs,List.cons_append,List.nil_append] at hk ⊢
  rw [← hset] at hk
  simp only [asQ,asV] at hk hI2
  have hav:∀ (q:Nat→Bool) (y:T),avoidAll q (((s.map I).map AV.t).set p (.t y))=true:=fun q y=>by rw [← List.map_set,q0l]
  cases hdn:dnA w (p / 2) with
  | true =>
   rw [hdn] at g2
   rw [if_pos hdn] at hk hI2
   (repeat' first|simp only [il42l0_go,il42l0b,go_sem,hs',hget',hlt,hw,ofN,v2,g2,gx,hsl,hplt,hI4,hav,q0a,fzl]|with_reducible refine wX fun _=>?_|((with_reducible refine wY ?_ ?_); rfl)|fail)
   all_goals (refine hk _ _ ⟨?_,hI2,?_⟩ <;> simp only [go_sem,hs',hw])
  | false =>
   rw [hdn] at g2
   rw [if_neg (by rw [hdn]; simp)] at hk hI2
   cases hst:stA w.t (toP w.t p).toNat with
   | true =>
    rw [hst] at g1
    rw [if_pos hst] at hk hI2
    (repeat' first|simp only [il42l0_go,il42l0b,go_sem,hs',hget',hlt,hw,ofN,v2,g1,g2,q1,k2,gx,hsl,hplt,hI4,hav,q0a,fzl]|with_reducible refine wX fun _=>?_|((with_reducible refine wY ?_ ?_); rfl)|fail)
    all_goals (refine hk _ _ ⟨?_,hI2,?_⟩ <;> simp only [go_sem,hs',hw])
   | false =>
    rw [hst] at g1
    rw [if_neg (by rw [hst]; simp)] at hk hI2
    have k3:=hg n p hn hnn (List.mem_filter.2 ⟨hm,by rw [innP,hst]; rfl⟩) hdn
    (repeat' first|simp only [il42l0_go,il42l0b,go_sem,hs',hget',hlt,hw,ofN,v2,g1,g2,q1,k2,k3,hgi,hgf,gx,hsl,hplt,hI4,hav,q0a,fzl]|with_reducible refine wX fun _=>?_|((with_reducible refine wY ?_ ?_); rfl)|fail)
    all_goals (refine hk _ _ ⟨?_,hI2,?_⟩ <;> simp only [go_sem,hs',hw])
 ·intro s e h Y R hlt ⟨hs',_,hh⟩ hk
  subst hh
  (repeat' first|simp only [il42l0_go,il42l0b,go_sem,hs',hlt]|with_reducible refine wX fun _=>?_|((with_reducible refine wY ?_ ?_); rfl)|fail)
  all_goals (refine hk _ _ _ ⟨?_,rfl,rfl⟩; simp only [go_sem,hs',id])
 ·intro x e h ⟨h1,h2,h3⟩
  have hf:∀ (l:List Nat) (i:Nat) (s:List Int × Nat),foldC (ρ:=List Int × Nat) (fun _ p s=>Ctl.go (asQ w r n s p)) id i l s=l.foldl (asQ w r n) s:=by
   intro l
   induction l with
   | nil=>intro i s; rfl
   | cons x l ih =>
    intro i s
    rw [q07 (s':=asQ w r n s x) rfl,ih,List.foldl_cons]
  rw [hf] at h3
  subst h2 h3
  exact hR _ h1
theorem qh7 (rf:Code × Code) (hrf:rfOf Tryz.prog 42 0=rf) (E:FEnv) (hE:E 2=.t (.ip (nwC f w))∧E 3=.t (.ip [.fn (.func g) [] cap])∧E 5=.ref 1 1 0 0) (s:List Int × Nat) (hs:asI w s) (n:Nat) (x:List T) (hn:n < w.bs.length) (hst:stA w.t n=false) (dd nn:Nat) (hnn:200 < nn) (Q:AV→Heap→Prop)
  (hQ:∀ X',Q (.t (B true)) (hpAs w rf E false (asN w r s n)++[.row 5 [.t (.agg x)] 1]++X')) :
  oB (inl Tryz.prog pol (ans Tryz.prog pol) nn (dd+1) (.yl 2) [.t (I (n:Nat)),.t (.agg x)] (hpAs w rf E false s++[.row 5 [.t (.agg x)] 1])) Q:=by
 subst hrf
 have k1:=q2u f w n hok (by omega)
 have hq:=hQ []
 have key:([.row 1 ((s.1.map I).map .t) s.2,.row 1 [.ms 0 (2*w.t.links.length) 0 (2*w.t.links.length) 1 true] 1,.loop 42 (lpEnv 61 (tidyF (some [2,3,5]) E)) [18,19] (rfOf Tryz.prog 42 0).1 (rfOf Tryz.prog 42 0).2 true none,.row 5 [.t (.agg x)] 1]:Heap)
   = hpAs w (rfOf Tryz.prog 42 0) E true s++[.row 5 [.t (.agg x)] 1]:=rfl
 have hR:=fun (R:Xit→FEnv→Heap→Prop) (e:FEnv) he hR=>qh6 f w g cap r hok hbl hdl hgi hgf hg (rfOf Tryz.prog 42 0) E hE x n hn hst s hs dd nn hnn R e he hR
 rw [← key] at hR
 have hlen:(((portsL w.t n).map ofN).map I).length=(portsL w.t n).length:=by simp
 have hlen2:((portsL w.t n).map ofN).length=(portsL w.t n).length:=by simp
 generalize asN w r s n=s2 at *
 simp only [hpAs,lpAs,List.cons_append,List.nil_append] at hq hR ⊢
 with_reducible refine oB_yl (E:=tidyF (some [2,3,5]) E) rfl rfl rfl il42r0a_eq il42r0b_eq ?_
 (repeat' first|simp only [il42r0a,il42r0b,go_sem,hE,k1,hlen2]|with_reducible refine wX fun _=>?_|((with_reducible refine wY ?_ ?_); rfl)|fail)
 with_reducible refine hR _ _ (by simp only [go_sem,hE,hlen2]) ?_
 intro e he
 (repeat' first|simp only [il42r0b,go_sem,he]|with_reducible refine wX fun _=>?_|((with_reducible refine wY ?_ ?_); rfl)|fail)
 all_goals exact hq
end
end Go.Proofs.YtbibdnlbpjnieaaGreat
namespace Go.Proofs.YtbibdnlbpjnieaaGreat
open Go Go.Abs
def asL (w:Nw) (r:Nat→Nat→Int):List Int:=((List.range w.bs.length).foldl (stS w.t (asN w r)) (List.replicate (2*w.t.links.length) 0,0)).1
theorem q6X (f:Fl) (w:Nw) (g:FuncId) (cap:List T) (r:Nat→Nat→Int) (hok:okT w.t=true) (hbl:(w.bs.length:Int)=w.t.nodes) (hdl:w.down.length=w.t.links.length)
  (hgi:pol.inl g 42 33=false) (hgf:pol.fresh g 42 33=false)
  (hg:∀ n p,n < w.bs.length→stA w.t n=false→p∈trunkL w.t n→dnA w (p / 2)=false→ans Tryz.prog pol g (I (n:Nat)::I (p:Nat)::cap)=some (I (r n p))) :
  ans Tryz.prog pol 42 [nwT f w,.fn (.func g) [] cap]=some (.sl true 1 ((asL w r).map I)):=by
 obtain ⟨z1,z2,z3⟩:=q02 hok
 have hroom:8*(2*w.t.links.length)≤roomB:=by rw [Nat.mul_comm]; exact q08 (by omega) (by omega)
 have hbig:2*w.t.links.length≤9223372036854775807:=by omega
 have v1:IntKind.i64.wrap (2*(w.t.links.length:Nat))=((2*w.t.links.length:Nat):Int):=q09 (by omega) (by omega)
 have hb100:w.bs.length≤100:=by omega
 have hcf:(T.fn (Fn.func g) [] cap).cells=[T.fn (Fn.func g) [] cap]:=rfl
 obtain ⟨nn,h2000⟩:∃ nn,2000 < nn:=⟨2001,by omega⟩
 have hn2:200 < nn:=by omega
 refine q00 nn 5 il42_eq (Nat.le_of_ble_eq_true rfl) ?_
 simp only [il42c]
 generalize hrf:rfOf Tryz.prog 42 0=rf
 (repeat' first|simp only [List.cons_append,List.nil_append,go_sem,hroom,hbig,v1]|with_reducible refine wX fun _=>?_|((with_reducible refine wY ?_ ?_); rfl)|((with_reducible refine q0b il31_eq ?_ ?_); exact Nat.le_of_ble_eq_true rfl; simp only [il31c])|fail)
 have hrep:List.replicate (2*w.t.links.length) (AV.t (T.sc (Value.int IntKind.i64 0)))=((List.replicate (2*w.t.links.length) (0:Int)).map I).map .t:=by simp
 have key:∀ E:FEnv,([.row 1 (((List.replicate (2*w.t.links.length) (0:Int)).map I).map .t) 0,.row 1 [.ms 0 (2*w.t.links.length) 0 (2*w.t.links.length) 1 true] 1,.loop 42 (lpEnv 61 (tidyF (some [2,3,5]) E)) [18,19] rf.1 rf.2 false none]:Heap)=hpAs w rf E false (List.replicate (2*w.t.links.length) 0,0):=fun E=>rfl
 rw [hrep,key]
 have h23:2 < 3:=by omega
 have hI0:asI w (List.replicate (2*w.t.links.length) 0,0):=⟨by simp,Nat.zero_le _⟩
 let σ:={ s:List Int × Nat // asI w s }
 let nx:σ→Nat→σ:=fun s n=>⟨asN w r s.1 n,q6V s.2⟩
 have hstv:∀ (s:σ) n,(stS w.t nx s n).1=stS w.t (asN w r) s.1 n:=fun s n=>by
  unfold stS
  by_cases q:stA w.t n=true
  ·rw [if_pos q,if_pos q]
  ·rw [if_neg q,if_neg q]
 have hfv:∀ (s:σ) k,((List.range k).foldl (stS w.t nx) s).1=(List.range k).foldl (stS w.t (asN w r)) s.1:=by
  intro s k
  induction k with
  | zero=>rfl
  | succ k ih =>
   rw [List.range_succ,List.foldl_append,List.foldl_append,List.foldl_cons,List.foldl_cons,List.foldl_nil,List.foldl_nil,hstv,ih]
 have hs0:∀ E:FEnv,hpAs w rf E false (List.replicate (2*w.t.links.length) 0,0)=(fun s:σ=>hpAs w rf E false s.1) ⟨(List.replicate (2*w.t.links.length) 0,0),hI0⟩:=fun E=>rfl
 rw [hs0]
 have hcl:asL w r=((List.range w.bs.length).foldl (stS w.t (asN w r)) (List.replicate (2*w.t.links.length) 0,0)).1:=rfl
 with_reducible refine @q3A σ (fun s:σ=>hpAs w rf _ false s.1) 3 (fun s=>rfl) nx 4 nn 2 (fun n s=>True) w (fun _ _ _ _=>trivial) ?_ h23 f z2 hbl hb100 ?_ ⟨(List.replicate (2*w.t.links.length) 0,0),hI0⟩ trivial _ hn2 ?_
 ·intro s h q hq
  exact qh5 f w g cap rf _ (by simp only [go_sem,hcf]) false s.1 h q hq
 ·intro s n x Q hx hs _ hQ
  have hnl:n < w.bs.length:=(List.getElem?_eq_some_iff.1 hx).1
  have hQ':∀ X',Q (.t (B true)) (hpAs w rf _ false (asN w r s.1 n)++[.row 5 [.t (.agg (bxC x))] 1]++X'):=hQ
  with_reducible exact @qh7 f w g cap r hok hbl hdl hgi hgf hg rf hrf _ (by simp only [go_sem,hcf]) s.1 s.2 n (bxC x) hnl hs 3 nn hn2 Q hQ'
 ·intro v
  have hfin:=((List.range w.bs.length).foldl (stS w.t nx) ⟨(List.replicate (2*w.t.links.length) 0,0),hI0⟩).2
  change rfEnd _ _ _ v (hpAs w rf _ false ((List.range w.bs.length).foldl (stS w.t nx) ⟨(List.replicate (2*w.t.links.length) 0,0),hI0⟩).1)
  rw [hfv] at hfin ⊢
  rw [hcl]
  generalize (List.range w.bs.length).foldl (stS w.t (asN w r)) (List.replicate (2*w.t.links.length) 0,0)=s at *
  obtain ⟨hf1,hf2⟩:=hfin
  have hl4:((s.1.map I).map AV.t).length=2*w.t.links.length:=by simp [hf1]
  simp only [hpAs,lpAs,List.cons_append,List.nil_append]
  (repeat' first|simp only [il42c,go_sem,q0a,hl4,hf2]|with_reducible refine wX fun _=>?_|((with_reducible refine wY ?_ ?_); rfl)|fail)
end Go.Proofs.YtbibdnlbpjnieaaGreat
namespace Go.Proofs.YtbibdnlbpjnieaaGreat
open Go Go.Abs
def encR:Option (List Int)→T
 | none=>.sc (.slice none 0 0)
 | some l=>.sl true 1 (l.map I)
def rolesB (b:Br):List Int:=(List.range b.ports.length).map (roleF b (opF b).t)
def rolesAt (w:Nw) (n:Nat):Option (List Int):=if stA w.t n=true then none else some (rolesB (bxA w n).b)
def roleW (w:Nw) (n p:Nat):Int:=roleF (bxA w n).b (opF (bxA w n).b).t (idxL (ofN p) 0 ((trunkL w.t n).map ofN)).toNat
theorem qh8 (f:Fl) (w:Nw) (h:NwOk w) (n p:Nat) (hn:n < w.bs.length) (hst:stA w.t n=false) (hp:p∈trunkL w.t n) :
  ans Tryz.prog pol 43 [I (n:Nat),I (p:Nat),.ip [.sl true 1 (((List.range w.bs.length).map (rolesAt w)).map encR)],.ip (nwC f w)]=some (I (roleW w n p)):=by
 obtain ⟨x,hx⟩:∃ x,w.bs[n]? = some x:=⟨w.bs[n]'hn,by simp [hn]⟩
 have hbx:bxA w n=x:=by simp [bxA,hx]
 obtain ⟨xz,xv⟩:=h.vb.2 n x hx hst
 obtain ⟨j,h1,h2,h3⟩:=q3C (v:=ofN p) (i:=0) (List.mem_map_of_mem (f:=ofN) hp)
 simp only [List.length_map] at h1
 have hrw:roleW w n p=roleF x.b (opF x.b).t j:=by
  rw [roleW,h3,hbx]
  congr 1
  omega
 have gr:(((List.range w.bs.length).map (rolesAt w)).map encR)[n]? = some (.sl true 1 ((rolesB x.b).map I)):=by
  rw [List.getElem?_map,List.getElem?_map,List.getElem?_range hn]
  simp only [Option.map_some,rolesAt,hst,Bool.false_eq_true,if_false,hbx,encR]
 have gb:(w.bs.map encX)[n]? = some (encX x):=by simp [hx]
 have hj:j < x.b.ports.length:=by rw [xv.ports]; simpa using h1
 have gj:((rolesB x.b).map I)[j]? = some (I (roleF x.b (opF x.b).t j)):=by simp [rolesB,hj]
 have htl:=q1k h.t (n:Nat)
 rw [hrw]
 generalize roleF x.b (opF x.b).t j=R at *
 generalize rolesB x.b=RB at *
 obtain ⟨z,c1,c2,c3,b⟩:=x
 dsimp only at xz xv hj
 subst xz
 have k1:=q6g c1 b.ports (ofN p) (by rw [xv.ports]; simp; omega)
 have hidx:idxL (ofN p) 0 b.ports=((j:Nat):Int):=by rw [xv.ports,h3]; congr 1; omega
 rw [hidx] at k1
 have hcell:(encX ⟨false,c1,c2,c3,b⟩).cells=brC c1 c2 c3 b:=rfl
 have hrl:(T.sl true 1 (RB.map I)).cells=[T.sl true 1 (RB.map I)]:=rfl
 refine q00 1 1 il43_eq (Nat.le_of_ble_eq_true rfl) ?_
 simp only [ofN] at k1
 (repeat' first|simp only [il43c,go_sem,k1,gr,gb,gj,hcell,hrl]|with_reducible refine wX fun _=>?_|((with_reducible refine wY ?_ ?_); rfl)|fail)
end Go.Proofs.YtbibdnlbpjnieaaGreat
namespace Go.Proofs.YtbibdnlbpjnieaaGreat
open Go Go.Abs
noncomputable def lpRo (rf:Code × Code) (E:FEnv):AObj:=.loop 16 (lpEnv 40 (tidyF (some [2,3,5]) E)) [22,23] rf.1 rf.2 false none
noncomputable def hpRo (w:Nw) (rf:Code × Code) (E:FEnv) (s:List (Option (List Int)) × Nat):Heap :=
 [.row 1 [.t (.sc (.slice none 0 0))] 0,.row 1 [.t (I 0)] 0,.row 1 ((s.1.map encR).map .t) s.2,.row 1 [.ms 2 w.bs.length 0 w.bs.length 1 true] 1,lpRo rf E]
theorem qh9 (w:Nw) (rf:Code × Code) (E:FEnv) (hE:E 2=.ref 0 1 0 0∧E 3=.ref 1 1 0 0∧E 5=.ref 3 1 0 0) (s:List (Option (List Int)) × Nat) (h:Heap) (q:Nat) (hq:5≤q):mapO (frzObj h (fromB q)) (hpRo w rf E s)=some (hpRo w rf E s):=by
 have f0:decide (q≤0)=false:=decide_eq_false (by omega)
 have f1:decide (q≤1)=false:=decide_eq_false (by omega)
 have f3:decide (q≤3)=false:=decide_eq_false (by omega)
 have h1:frzObj h (fromB q) (lpRo rf E)=some (lpRo rf E):=by
  rw [lpRo,q0y]
  simp only [go_sem,hE,f0,f1,f3]
 have a1:avoidAll (fromB q) [.ms 2 w.bs.length 0 w.bs.length 1 true]=true:=by simp [avoidAll,avoid,fromB]; omega
 have a4:∀ x:T,avoidAll (fromB q) [.t x]=true:=fun x=>by simp [avoidAll,avoid]
 simp only [hpRo,mapO,h1,q0a,q0h a1,q0h (a4 _)]
theorem qha (rf:Code × Code) (hrf:rfOf Tryz.prog 16 0=rf) (w:Nw) (h:NwOk w) (E:FEnv) (hE:E 2=.ref 0 1 0 0∧E 3=.ref 1 1 0 0∧E 5=.ref 3 1 0 0) (s:List (Option (List Int)) × Nat) (hsl:s.1.length=w.bs.length) (hmr:s.2≤w.bs.length) (n:Nat) (x:Bx) (hx:w.bs[n]? = some x) (hst:stA w.t n=false) (dd nn:Nat) (hn:200 < nn) (Q:AV→Heap→Prop)
  (hQ:∀ X',Q (.t (B true)) (hpRo w rf E (s.1.set n (some (rolesB x.b)),w.bs.length)++[.row 5 [.t (.agg (bxC x))] 1]++X')) :
  oB (inl Tryz.prog pol (ans Tryz.prog pol) nn (dd+1) (.yl 4) [.t (I (n:Nat)),.t (.agg (bxC x))] (hpRo w rf E s++[.row 5 [.t (.agg (bxC x))] 1])) Q:=by
 subst hrf
 obtain ⟨xz,xv⟩:=h.vb.2 n x hx hst
 have hnl:n < w.bs.length:=(List.getElem?_eq_some_iff.1 hx).1
 obtain ⟨z,c1,c2,c3,b⟩:=x
 dsimp only at xz xv hQ
 subst xz
 have hbc:bxC ⟨false,c1,c2,c3,b⟩=brC c1 c2 c3 b:=rfl
 rw [hbc] at hQ ⊢
 have k1:ans Tryz.prog pol 41 [brT c1 c2 c3 b]=some (.tup [.sl true 1 ((rolesB b).map I),I 0]):=qfJ c1 c2 c3 b xv.ok
 have hb5:(T.agg (brC c1 c2 c3 b)).cells=brC c1 c2 c3 b:=rfl
 obtain ⟨y,hy⟩:∃ y,s.1[n]? = some y:=⟨s.1[n]'(by omega),by simp [show n < s.1.length by omega]⟩
 have gx:((s.1.map encR).map AV.t)[n]? = some (.t (encR y)):=q0c (enc:=encR) hy
 have hset:=map_set (enc:=encR) (l:=s.1) (i:=n) (x:=some (rolesB b))
 have hex:encR (some (rolesB b))=.sl true 1 ((rolesB b).map I):=rfl
 rw [hex] at hset
 have hslE:((s.1.map encR).map AV.t).length=w.bs.length:=by simp [hsl]
 have hyc:(encR y).cells=[encR y]:=by cases y <;> rfl
 have hya:(AV.t (encR y)).isAgg=false:=by cases y <;> rfl
 have hyc2:(AV.t (encR y)).cells=[.t (encR y)]:=by cases y <;> rfl
 have hav:∀ (q:Nat→Bool) (y:T),avoidAll q (((s.1.map encR).map AV.t).set n (.t y))=true:=fun q y=>by rw [← List.map_set,q0l]
 have hq:=hQ
 simp only [hpRo,lpRo,List.cons_append,List.nil_append] at hq ⊢
 rw [← hset] at hq
 generalize rolesB b=RB at *
 generalize encR y=Y at *
 with_reducible refine oB_yl (E:=tidyF (some [2,3,5]) E) rfl rfl rfl il16r0a_eq il16r0b_eq ?_
 (repeat' first|simp only [il16r0a,il16r0b,go_sem,hE,k1,hb5,gx,hslE,hyc,hya,hyc2,hnl,hmr,hav]|with_reducible refine wX fun _=>?_|((with_reducible refine wY ?_ ?_); rfl)|fail)
 all_goals exact hq _
end Go.Proofs.YtbibdnlbpjnieaaGreat
