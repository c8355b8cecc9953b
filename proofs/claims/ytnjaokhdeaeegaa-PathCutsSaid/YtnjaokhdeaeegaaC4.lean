/- Part 4 of the proof of PathCuts. -/
import Derived.Test.YtnjaokhdeaeegaaC3
set_option linter.all false
set_option maxRecDepth 100000
set_option maxHeartbeats 4000000
namespace Go.Proofs.Ytnjaokhdeaeegaa
def setF {α:Type} (f:Nat→α) (i:Nat) (x:α):Nat→α:=fun j=>if j=i then x else f j
theorem q0Q {α:Type} {f:Nat→α} {i:Nat} {x:α}:setF f i x i=x:=by simp [setF]
theorem q0R {α:Type} {f:Nat→α} {i j:Nat} {x:α} (h:j≠i):setF f i x j=f j:=by simp [setF,h]
theorem q9q {α:Type} {f:Nat→α} {i:Nat} {x:α} (h:f i=x):setF f i x=f:=by
 funext j
 by_cases hj:j=i
 ·subst hj; rw [q0Q,h]
 ·rw [q0R hj]
structure Ed where
 a:Nat
 b:Nat
 w:Int
 deriving DecidableEq
def iter {σ:Type} (f:σ→σ):Nat→σ→σ
 | 0,s=>s
 | n+1,s=>f (iter f n s)
def cnt (N:Nat) (S:Nat→Bool):Nat:=((List.range N).filter S).length
theorem q9r (N:Nat) (S:Nat→Bool):cnt N S≤N:=by
 have:=List.length_filter_le S (List.range N)
 simpa [cnt] using this
theorem q2p (N:Nat) (S:Nat→Bool):cnt (N+1) S=cnt N S+(if S N then 1 else 0):=by
 simp only [cnt,List.range_succ,List.filter_append,List.length_append]
 congr 1
 cases h:S N <;> simp [h]
theorem q9s {N:Nat} {S S':Nat→Bool} (h:∀ i,i < N→S i=true→S' i=true):cnt N S≤cnt N S':=by
 induction N with
 | zero=>simp [cnt]
 | succ N ih =>
  have h1:=ih (fun i hi=>h i (by omega))
  rw [q2p,q2p]
  have h2:=h N (by omega)
  cases hS:S N with
  | false=>simp; omega
  | true=>simp [h2 hS]; omega
theorem q5w {N:Nat} {S S':Nat→Bool} (h:∀ i,i < N→S i=true→S' i=true) {j:Nat} (hj:j < N) (h1:S j=false) (h2:S' j=true):cnt N S+1≤cnt N S':=by
 induction N with
 | zero=>omega
 | succ N ih =>
  rw [q2p,q2p]
  by_cases hjn:j=N
  ·subst hjn
   have:=q9s (N:=j) (S:=S) (S':=S') (fun i hi=>h i (by omega))
   simp [h1,h2]; omega
  ·have:=ih (fun i hi=>h i (by omega)) (by omega)
   have h3:=h N (by omega)
   cases hS:S N with
   | false=>simp; omega
   | true=>simp [h3 hS]; omega
def bpE (S:Nat→Bool) (e:Ed):Nat→Bool:=setF S e.a (S e.a || S e.b)
def sprB (E:List Ed) (S:Nat→Bool):Nat→Bool:=E.foldl bpE S
theorem q5x {S:Nat→Bool} {e:Ed} {i:Nat} (h:S i=true):bpE S e i=true:=by
 unfold bpE setF
 split
 ·rename_i h'; subst h'; simp [h]
 ·exact h
theorem q1B:∀ (E:List Ed) {S:Nat→Bool} {i:Nat},S i=true→sprB E S i=true:=by
 intro E
 induction E with
 | nil=>intro S i h; exact h
 | cons e E ih=>intro S i h; exact ih (q5x h)
theorem q9t:∀ (E:List Ed) {S:Nat→Bool} {e:Ed},e∈E→S e.b=true→sprB E S e.a=true:=by
 intro E
 induction E with
 | nil=>intro S e h; cases h
 | cons e' E ih =>
  intro S e h hb
  cases h with
  | head=>exact q1B E (by unfold bpE; rw [q0Q,hb,Bool.or_true])
  | tail _ h=>exact ih h (q5x hb)
theorem q5y {N:Nat}:∀ (E:List Ed) (hE:∀ e∈E,e.a < N) {S:Nat→Bool} {i:Nat},N≤i→sprB E S i=S i:=by
 intro E
 induction E with
 | nil=>intro _ S i h; rfl
 | cons e E ih =>
  intro hE S i h
  have h1:=hE e (by simp)
  have:=ih (fun e he=>hE e (by simp [he])) (S:=bpE S e) h
  show sprB E (bpE S e) i=_
  rw [this]
  unfold bpE
  rw [q0R (by omega)]
theorem stab {N:Nat} {E:List Ed} (hE:∀ e∈E,e.a < N) (S:Nat→Bool):sprB E (iter (sprB E) N S)=iter (sprB E) N S:=by
 have step:∀ k,(sprB E (iter (sprB E) k S)=iter (sprB E) k S)∨k+1≤cnt N (iter (sprB E) (k+1) S):=by
  intro k
  induction k with
  | zero =>
   by_cases h:sprB E S=S
   ·exact .inl h
   ·right
    have:∃ j,sprB E S j≠S j:=Classical.byContradiction fun hn=>h (funext fun j=>Classical.byContradiction fun hj=>hn ⟨j,hj⟩)
    obtain ⟨j,hj⟩:=this
    have hjN:j < N:=Nat.lt_of_not_le fun hle=>hj (q5y E hE hle)
    have hf:S j=false:=by
     cases hS:S j with
     | false=>rfl
     | true=>exact absurd (by rw [q1B E hS,hS]) hj
    have ht:sprB E S j=true:=by
     cases hS:sprB E S j with
     | true=>rfl
     | false=>exact absurd (by rw [hS,hf]) hj
    have:=q5w (N:=N) (S:=S) (S':=sprB E S) (fun i _ hi=>q1B E hi) hjN hf ht
    show 0+1≤cnt N (sprB E S)
    omega
  | succ k ih =>
   rcases ih with h|h
   ·left
    show sprB E (sprB E (iter (sprB E) k S))=sprB E (iter (sprB E) k S)
    rw [h,h]
   ·by_cases hs:sprB E (iter (sprB E) (k+1) S)=iter (sprB E) (k+1) S
    ·exact .inl hs
    ·right
     generalize hT:iter (sprB E) (k+1) S=T at *
     have:∃ j,sprB E T j≠T j:=Classical.byContradiction fun hn=>hs (funext fun j=>Classical.byContradiction fun hj=>hn ⟨j,hj⟩)
     obtain ⟨j,hj⟩:=this
     have hjN:j < N:=Nat.lt_of_not_le fun hle=>hj (q5y E hE hle)
     have hf:T j=false:=by
      cases hS:T j with
      | false=>rfl
      | true=>exact absurd (by rw [q1B E hS,hS]) hj
     have ht:sprB E T j=true:=by
      cases hS:sprB E T j with
      | true=>rfl
      | false=>exact absurd (by rw [hS,hf]) hj
     have:=q5w (N:=N) (S:=T) (S':=sprB E T) (fun i _ hi=>q1B E hi) hjN hf ht
     show k+1+1≤cnt N (sprB E (iter (sprB E) (k+1) S))
     rw [hT]
     omega
 rcases step N with h|h
 ·exact h
 ·have:=q9r N (iter (sprB E) (N+1) S); omega
inductive Cn (E:List Ed):Nat→Nat→Prop
 | refl (i:Nat):Cn E i i
 | step {e:Ed} {k:Nat}:e∈E→Cn E e.b k→Cn E e.a k
theorem Cn.trans {E:List Ed} {i j k:Nat} (h1:Cn E i j) (h2:Cn E j k):Cn E i k:=by
 induction h1 with
 | refl=>exact h2
 | step he _ ih=>exact .step he (ih h2)
def symE (E:List Ed):Prop:=∀ e∈E,(⟨e.b,e.a,e.w⟩:Ed)∈E
theorem Cn.symm {E:List Ed} (hs:symE E) {i j:Nat} (h:Cn E i j):Cn E j i:=by
 induction h with
 | refl=>exact .refl _
 | step he _ ih=>exact ih.trans (.step (e:=⟨_,_,_⟩) (hs _ he) (.refl _))
theorem Cn.const {E:List Ed} {α:Type} {f:Nat→α} (hf:∀ e∈E,f e.a=f e.b) {i j:Nat} (h:Cn E i j):f i=f j:=by
 induction h with
 | refl=>rfl
 | step he _ ih=>rw [hf _ he,ih]
theorem q5z {N:Nat} {E:List Ed} (hE:∀ e∈E,e.a < N) (s i:Nat):iter (sprB E) N (fun j=>decide (j=s)) i=true↔Cn E i s:=by
 constructor
 ·have key:∀ (E':List Ed),(∀ e∈E',e∈E)→∀ S:Nat→Bool,(∀ i,S i=true→Cn E i s)→∀ i,sprB E' S i=true→Cn E i s:=by
   intro E'
   induction E' with
   | nil=>intro _ S h; exact h
   | cons e E' ih =>
    intro hm S h
    refine ih (fun e he=>hm e (by simp [he])) (bpE S e) ?_
    intro i hi
    unfold bpE setF at hi
    split at hi
    ·rename_i h'
     subst h'
     rw [Bool.or_eq_true] at hi
     rcases hi with hi|hi
     ·exact h _ hi
     ·exact .step (hm e (by simp)) (h _ hi)
    ·exact h _ hi
  have:∀ n i,iter (sprB E) n (fun j=>decide (j=s)) i=true→Cn E i s:=by
   intro n
   induction n with
   | zero=>intro i hi; simp only [iter,decide_eq_true_eq] at hi; subst hi; exact .refl _
   | succ n ih=>exact key E (fun _ h=>h) _ ih
  exact this N i
 ·intro h
  have hmono:∀ n,iter (sprB E) n (fun j=>decide (j=s)) s=true:=by
   intro n
   induction n with
   | zero=>simp [iter]
   | succ n ih=>exact q1B E ih
  have hst:=stab hE (fun j=>decide (j=s))
  have hcl:∀ e∈E,iter (sprB E) N (fun j=>decide (j=s)) e.b=true→iter (sprB E) N (fun j=>decide (j=s)) e.a=true:=by
   intro e he hb
   have:=q9t E he hb
   rwa [hst] at this
  have key:∀ {i j:Nat},Cn E i j→iter (sprB E) N (fun j=>decide (j=s)) j=true→iter (sprB E) N (fun j=>decide (j=s)) i=true:=by
   intro i j h
   induction h with
   | refl=>exact fun h=>h
   | step he _ ih=>exact fun h=>hcl _ he (ih h)
  exact key h (hmono N)
theorem Cn.lt {E:List Ed} {N:Nat} (hE:∀ e∈E,e.a < N∧e.b < N) {i j:Nat} (h:Cn E i j) (hi:i < N):j < N:=by
 induction h with
 | refl=>exact hi
 | step he _ ih=>exact ih (hE _ he).2
section
variable {N:Nat} {E:List Ed} (hE:∀ e∈E,e.a < N∧e.b < N∧e.a≠e.b∧1≤e.w) {d0:Nat→Int} (h0:∀ i,0≤d0 i)
include hE h0
end
structure Dst (κ:Nat→Int) (E:List Ed) (N:Nat) (F:Nat→Nat) (D:Nat→Int):Prop where
 edge:∀ e∈E,D e.a≤D e.b+e.w
 top:∀ i,i < N→F i=i→D i=0
 nn:∀ i,i < N→0≤D i
 par:∀ i,i < N→F i≠i→∃ e∈E,e.a=i∧D i=D e.b+e.w
theorem Dst.le {κ:Nat→Int} {E:List Ed} {N:Nat} {F:Nat→Nat} {D D':Nat→Int} (hE:∀ e∈E,e.a < N∧e.b < N∧e.a≠e.b∧1≤e.w) (h:Dst κ E N F D) (h':Dst κ E N F D'):∀ (n i:Nat),i < N→D' i≤n→D i≤D' i:=by
 intro n
 induction n with
 | zero =>
  intro i hi hn
  by_cases hF:F i=i
  ·rw [h.top i hi hF,h'.top i hi hF]; exact Int.le_refl _
  ·obtain ⟨e,he,h1,h2⟩:=h'.par i hi hF
   have:=h'.nn e.b (hE e he).2.1
   have:=(hE e he).2.2.2
   omega
 | succ n ih =>
  intro i hi hn
  by_cases hF:F i=i
  ·rw [h.top i hi hF,h'.top i hi hF]; exact Int.le_refl _
  ·obtain ⟨e,he,h1,h2⟩:=h'.par i hi hF
   have h3:=(hE e he).2.2.2
   have h4:=ih e.b (hE e he).2.1 (by omega)
   have h5:=h.edge e he
   rw [h1] at h5
   omega
theorem Dst.eq {κ:Nat→Int} {E:List Ed} {N:Nat} {F:Nat→Nat} {D D':Nat→Int} (hE:∀ e∈E,e.a < N∧e.b < N∧e.a≠e.b∧1≤e.w) (h:Dst κ E N F D) (h':Dst κ E N F D') (i:Nat) (hi:i < N):D i=D' i:=by
 have h1:=h.le hE h' (D' i).toNat i hi (by omega)
 have h2:=h'.le hE h (D i).toNat i hi (by omega)
 omega
end Go.Proofs.Ytnjaokhdeaeegaa
namespace Go.Proofs.Ytnjaokhdeaeegaa
structure Gr where
 P:Nat
 fr:Nat→Nat
 to:Nat→Nat
 w:Nat→Int
def lexB:List Nat→List Nat→Bool
 | _,[]=>false
 | [],_::_=>true
 | a::as,b::bs=>decide (a < b) || (decide (a=b) && lexB as bs)
theorem q5A:∀ a,lexB a a=false:=by
 intro a
 induction a with
 | nil=>rfl
 | cons x a ih=>simp [lexB,ih]
theorem q9u:∀ {a b c:List Nat},lexB a b=true→lexB b c=true→lexB a c=true:=by
 intro a
 induction a with
 | nil =>
  intro b c h1 h2
  cases c with
  | nil=>cases b <;> simp [lexB] at h2
  | cons z c=>rfl
 | cons x a ih =>
  intro b c h1 h2
  cases b with
  | nil=>simp [lexB] at h1
  | cons y b =>
   cases c with
   | nil=>simp [lexB] at h2
   | cons z c =>
    simp only [lexB,Bool.or_eq_true,Bool.and_eq_true,decide_eq_true_eq] at h1 h2 ⊢
    rcases h1 with h1|⟨h1,h1'⟩ <;> rcases h2 with h2|⟨h2,h2'⟩
    ·left; omega
    ·left; omega
    ·left; omega
    ·right; exact ⟨by omega,ih h1' h2'⟩
theorem q9v:∀ {a b:List Nat},lexB a b=false→lexB b a=false→a=b:=by
 intro a
 induction a with
 | nil=>intro b h1 h2; cases b with
  | nil=>rfl
  | cons y b=>simp [lexB] at h1
 | cons x a ih =>
  intro b h1 h2
  cases b with
  | nil=>simp [lexB] at h2
  | cons y b =>
   simp only [lexB,Bool.or_eq_false_iff,Bool.and_eq_false_iff,decide_eq_false_iff_not] at h1 h2
   have hxy:x=y:=by omega
   have e1:lexB a b=false:=h1.2.resolve_left (fun h=>h hxy)
   have e2:lexB b a=false:=h2.2.resolve_left (fun h=>h hxy.symm)
   rw [hxy,ih e1 e2]
theorem q9w:∀ {a b x y:List Nat},lexB a b=true→¬ a <+: b→lexB (a++x) (b++y)=true:=by
 intro a
 induction a with
 | nil=>intro b x y _ h; exact absurd (List.nil_prefix) h
 | cons c a ih =>
  intro b x y h hp
  cases b with
  | nil=>simp [lexB] at h
  | cons d b =>
   simp only [List.cons_append,lexB,Bool.or_eq_true,Bool.and_eq_true,decide_eq_true_eq] at h ⊢
   rcases h with h|⟨h1,h2⟩
   ·exact .inl h
   ·right
    refine ⟨h1,ih h2 (fun hh=>hp ?_)⟩
    subst h1
    exact List.cons_prefix_cons.2 ⟨rfl,hh⟩
section
variable (G:Gr)
def gw:List Nat→Int
 | []=>0
 | p::r=>1+G.w p+gw r
def befB (a b:List Nat):Bool:=decide (gw G a < gw G b) || (decide (gw G a=gw G b) && lexB a b)
variable {G}
theorem q3o (a b:List Nat):gw G (a++b)=gw G a+gw G b:=by
 induction a with
 | nil=>simp [gw]
 | cons x a ih=>simp only [List.cons_append,gw,ih]; omega
theorem q3p {a b:List Nat}:befB G a b=true↔gw G a < gw G b∨gw G a=gw G b∧lexB a b=true:=by
 simp only [befB,Bool.or_eq_true,Bool.and_eq_true,decide_eq_true_eq]
theorem q13 (a:List Nat):befB G a a=false:=by simp [befB,q5A]
theorem q1C {a b c:List Nat} (h1:befB G a b=true) (h2:befB G b c=true):befB G a c=true:=by
 rw [q3p] at *
 rcases h1 with h1|⟨h1,h1'⟩ <;> rcases h2 with h2|⟨h2,h2'⟩
 ·left; omega
 ·left; omega
 ·left; omega
 ·right; exact ⟨by omega,q9u h1' h2'⟩
theorem q1S {a b:List Nat} (h1:befB G a b=false) (h2:befB G b a=false):a=b:=by
 simp only [befB,Bool.or_eq_false_iff,Bool.and_eq_false_iff,decide_eq_false_iff_not] at h1 h2
 have hab:gw G a=gw G b:=by omega
 exact q9v (h1.2.resolve_left (fun h=>h hab)) (h2.2.resolve_left (fun h=>h hab.symm))
theorem q2q {a b c:List Nat} (h1:befB G b a=false) (h2:befB G c b=false):befB G c a=false:=by
 cases h:befB G c a with
 | false=>rfl
 | true =>
  cases h3:befB G a b with
  | true=>rw [q1C h h3] at h2; cases h2
  | false=>rw [q1S h3 h1] at h; rw [h] at h2; cases h2
theorem gw_nn (hw:∀ p,0≤G.w p):∀ r,0≤gw G r:=by
 intro r
 induction r with
 | nil=>simp [gw]
 | cons p r ih=>have:=hw p; simp only [gw]; omega
theorem q5B (hw:∀ p,0≤G.w p) {a b:List Nat} (h:a <+: b) (hne:a≠b):gw G a < gw G b:=by
 obtain ⟨c,rfl⟩:=h
 rw [q3o]
 cases c with
 | nil=>exact absurd (by simp) hne
 | cons p c =>
  have:=hw p
  have:=gw_nn hw c
  simp only [gw]
  omega
theorem q5C (hw:∀ p,0≤G.w p) {a b:List Nat} (p:Nat) (h:befB G a b=true):befB G (a++[p]) (b++[p])=true:=by
 rw [q3p,q3o,q3o] at *
 rcases h with h|⟨h1,h2⟩
 ·left; omega
 ·right
  refine ⟨by omega,q9w h2 (fun hp=>?_)⟩
  by_cases hab:a=b
  ·rw [hab,q5A] at h2; cases h2
  ·have:=q5B hw hp hab; omega
theorem q9x (hw:∀ p,0≤G.w p) {a b:List Nat} (p:Nat) (h:befB G a b=false):befB G (a++[p]) (b++[p])=false:=by
 cases h2:befB G b a with
 | true =>
  have h3:=q5C hw p h2
  cases h4:befB G (a++[p]) (b++[p]) with
  | false=>rfl
  | true=>have:=q1C h3 h4; rw [q13] at this; cases this
 | false=>rw [q1S h h2]; exact q13 _
end
structure Av where
 from_:Nat
 sta:Nat→Bool
 nod:Nat→Bool
 lnk:Nat→Bool
def okp (G:Gr) (A:Av) (p:Nat):Prop:=p < G.P∧A.lnk (p / 2)=false∧G.to p≠A.from_
inductive Wk (G:Gr) (A:Av):Nat→List Nat→Prop
 | one {p:Nat}:okp G A p→G.fr p=A.from_→Wk G A (G.to p) [p]
 | snoc {r:List Nat} {p:Nat}:Wk G A (G.fr p) r→A.sta (G.fr p)=false→A.nod (G.fr p)=false→okp G A p→Wk G A (G.to p) (r++[p])
theorem Wk.ne {G:Gr} {A:Av} {n:Nat} {r:List Nat} (h:Wk G A n r):n≠A.from_:=by
 cases h with
 | one h _=>exact h.2.2
 | snoc _ _ _ h=>exact h.2.2
theorem Wk.nil {G:Gr} {A:Av} {n:Nat} {r:List Nat} (h:Wk G A n r):r≠[]:=by
 cases h <;> simp
theorem Wk.inv {G:Gr} {A:Av} {n p:Nat} {r a:List Nat} (h:Wk G A n r) (hr:r=a++[p]):okp G A p∧n=G.to p∧(a=[]∧G.fr p=A.from_∨Wk G A (G.fr p) a∧A.sta (G.fr p)=false∧A.nod (G.fr p)=false):=by
 cases h with
 | one h1 h2 =>
  have hl:=congrArg List.length hr
  simp only [List.length_append,List.length_cons,List.length_nil] at hl
  obtain rfl:a=[]:=List.eq_nil_of_length_eq_zero (by omega)
  simp only [List.nil_append,List.cons.injEq,and_true] at hr
  subst hr
  exact ⟨h1,rfl,.inl ⟨rfl,h2⟩⟩
 | snoc g0 g1 g2 g3 =>
  obtain ⟨e1,e2⟩:=List.append_inj' hr rfl
  simp only [List.cons.injEq,and_true] at e2
  subst e1 e2
  exact ⟨g3,rfl,.inr ⟨g0,g1,g2⟩⟩
theorem Wk.end {G:Gr} {A:Av} {n q:Nat} {a:List Nat} (h:Wk G A n (a++[q])):n=G.to q:=(h.inv rfl).2.1
theorem Wk.pre {G:Gr} {A:Av} {n:Nat} {r:List Nat} (h:Wk G A n r):∀ {a c:List Nat} {q:Nat},r=a++q::c→Wk G A (G.to q) (a++[q]):=by
 induction h with
 | one h1 h2 =>
  intro a c q hr
  have hl:=congrArg List.length hr
  simp only [List.length_append,List.length_cons,List.length_nil] at hl
  obtain rfl:a=[]:=List.eq_nil_of_length_eq_zero (by omega)
  simp only [List.nil_append,List.cons.injEq] at hr
  rw [← hr.1]
  exact .one h1 h2
 | snoc h0 h1 h2 h3 ih =>
  rename_i r p
  intro a c q hr
  rcases List.eq_nil_or_concat c with rfl|⟨c',x,rfl⟩
  ·have:=List.append_inj' hr rfl
   obtain ⟨e1,e2⟩:=this
   simp only [List.cons.injEq,and_true] at e2
   subst e1 e2
   exact .snoc h0 h1 h2 h3
  ·rw [List.concat_eq_append,← List.cons_append,← List.append_assoc] at hr
   exact ih (List.append_inj' hr rfl).1
section
variable (G:Gr) (A:Av)
def dpC (b:Nat→List Nat) (p:Nat):Prop:=(A.lnk (p / 2)=false∧G.to p≠A.from_)∧(G.fr p=A.from_∨b (G.fr p)≠[]∧A.sta (G.fr p)=false∧A.nod (G.fr p)=false)
instance (b:Nat→List Nat) (p:Nat):Decidable (dpC G A b p):=inferInstanceAs (Decidable (_∧_))
def dpS (b s:Nat→List Nat) (p:Nat):Nat→List Nat:=if dpC G A b p∧(s (G.to p)=[]∨befB G (b (G.fr p)++[p]) (s (G.to p))=true) then setF s (G.to p) (b (G.fr p)++[p]) else s
def dpR (b:Nat→List Nat):Nat→List Nat:=(List.range G.P).foldl (dpS G A b) b
def dp (k:Nat):Nat→List Nat:=iter (dpR G A) k (fun _=>[])
structure Best (k:Nat) (b:Nat→List Nat):Prop where
 frm:b A.from_=[]
 wk:∀ n,b n≠[]→Wk G A n (b n)∧(b n).length≤k
 min:∀ n r,Wk G A n r→r.length≤k→b n≠[]∧befB G r (b n)=false
end
section
variable {G:Gr} {A:Av}
theorem q9y (hw:∀ p,0≤G.w p) {k:Nat} {b:Nat→List Nat} (hb:Best G A k b):Best G A (k+1) (dpR G A b):=by
 have key:∀ m,m≤G.P→((List.range m).foldl (dpS G A b) b) A.from_=[] ∧
   (∀ n,((List.range m).foldl (dpS G A b) b) n≠[]→Wk G A n (((List.range m).foldl (dpS G A b) b) n)∧(((List.range m).foldl (dpS G A b) b) n).length≤k+1) ∧
   (∀ n,b n≠[]→((List.range m).foldl (dpS G A b) b) n≠[]∧befB G (b n) (((List.range m).foldl (dpS G A b) b) n)=false) ∧
   (∀ p,p < m→dpC G A b p→((List.range m).foldl (dpS G A b) b) (G.to p)≠[]∧befB G (b (G.fr p)++[p]) (((List.range m).foldl (dpS G A b) b) (G.to p))=false):=by
  intro m
  induction m with
  | zero =>
   intro _
   exact ⟨hb.frm,fun n hn=>⟨(hb.wk n hn).1,Nat.le_succ_of_le (hb.wk n hn).2⟩,fun n hn=>⟨hn,q13 _⟩,fun p hp=>by omega⟩
  | succ m ih =>
   intro hm
   obtain ⟨i1,i2,i3,i4⟩:=ih (by omega)
   rw [List.range_succ,List.foldl_append,List.foldl_cons,List.foldl_nil]
   generalize (List.range m).foldl (dpS G A b) b=s at *
   unfold dpS
   by_cases hc:dpC G A b m
   ·have hcand:Wk G A (G.to m) (b (G.fr m)++[m])∧(b (G.fr m)++[m]).length≤k+1:=by
     obtain ⟨⟨c1,c2⟩,c3⟩:=hc
     rcases c3 with c3|⟨c3,c4,c5⟩
     ·rw [c3,hb.frm]
      exact ⟨.one ⟨by omega,c1,c2⟩ c3,by simp⟩
     ·obtain ⟨w1,w2⟩:=hb.wk _ c3
      exact ⟨.snoc w1 c4 c5 ⟨by omega,c1,c2⟩,by simp; omega⟩
    by_cases hs:s (G.to m)=[]∨befB G (b (G.fr m)++[m]) (s (G.to m))=true
    ·rw [if_pos ⟨hc,hs⟩]
     have hle:∀ x:List Nat,s (G.to m)≠[]→befB G x (s (G.to m))=false→befB G x (b (G.fr m)++[m])=false:=fun x h1 h2=>by
      rcases hs with hs|hs
      ·exact absurd hs h1
      ·cases h3:befB G x (b (G.fr m)++[m]) with
       | false=>rfl
       | true=>rw [q1C h3 hs] at h2; cases h2
     refine ⟨?_,fun n hn=>?_,fun n hn=>?_,fun p hp hcp=>?_⟩
     ·rw [q0R (fun h=>hc.1.2 h.symm)]; exact i1
     ·by_cases hnm:n=G.to m
      ·subst hnm; rw [q0Q]; exact hcand
      ·rw [q0R hnm] at hn ⊢; exact i2 n hn
     ·obtain ⟨j1,j2⟩:=i3 n hn
      by_cases hnm:n=G.to m
      ·subst hnm; rw [q0Q]; exact ⟨by simp,hle _ j1 j2⟩
      ·rw [q0R hnm]; exact ⟨j1,j2⟩
     ·by_cases hpm:p=m
      ·subst hpm; rw [q0Q]; exact ⟨by simp,q13 _⟩
      ·obtain ⟨j1,j2⟩:=i4 p (by omega) hcp
       by_cases hnm:G.to p=G.to m
       ·rw [hnm] at j1 j2 ⊢; rw [q0Q]; exact ⟨by simp,hle _ j1 j2⟩
       ·rw [q0R hnm]; exact ⟨j1,j2⟩
    ·rw [if_neg (fun h=>hs h.2)]
     refine ⟨i1,i2,i3,fun p hp hcp=>?_⟩
     by_cases hpm:p=m
     ·subst hpm
      exact ⟨fun h=>hs (.inl h),by
       cases h:befB G (b (G.fr p)++[p]) (s (G.to p)) with
       | false=>rfl
       | true=>exact absurd (.inr h) hs⟩
     ·exact i4 p (by omega) hcp
   ·rw [if_neg (fun h=>hc h.1)]
    exact ⟨i1,i2,i3,fun p hp hcp=>i4 p (by
     by_cases hpm:p=m
     ·subst hpm; exact absurd hcp hc
     ·omega) hcp⟩
 obtain ⟨k1,k2,k3,k4⟩:=key G.P (Nat.le_refl _)
 refine ⟨k1,k2,fun n r hr hl=>?_⟩
 by_cases hlk:r.length≤k
 ·obtain ⟨m1,m2⟩:=hb.min n r hr hlk
  obtain ⟨m3,m4⟩:=k3 n m1
  exact ⟨m3,q2q m4 m2⟩
 ·cases hr with
  | one h1 h2 =>
   rename_i p
   obtain ⟨m1,m2⟩:=k4 p h1.1 ⟨⟨h1.2.1,h1.2.2⟩,.inl h2⟩
   rw [h2,hb.frm] at m2
   exact ⟨m1,m2⟩
  | snoc h0 h1 h2 h3 =>
   rename_i r p
   simp only [List.length_append,List.length_cons,List.length_nil] at hl
   obtain ⟨m1,m2⟩:=hb.min _ _ h0 (by omega)
   obtain ⟨m3,m4⟩:=k4 p h3.1 ⟨⟨h3.2.1,h3.2.2⟩,.inr ⟨m1,h1,h2⟩⟩
   exact ⟨m3,q2q m4 (q9x hw p m2)⟩
theorem q5D (hw:∀ p,0≤G.w p) (k:Nat):Best G A k (dp G A k):=by
 induction k with
 | zero=>exact ⟨rfl,fun n hn=>absurd rfl hn,fun n r hr hl=>absurd (List.eq_nil_of_length_eq_zero (by omega)) hr.nil⟩
 | succ k ih=>exact q9y hw ih
structure Least (G:Gr) (A:Av) (k n:Nat) (r:List Nat):Prop where
 wk:Wk G A n r
 len:r.length≤k
 min:∀ r',Wk G A n r'→r'.length≤k→befB G r' r=false
theorem Least.simple (hw:∀ p,0≤G.w p) {k n:Nat} {r:List Nat} (h:Least G A k n r):(r.map G.to).Nodup:=by
 obtain ⟨h0,h1,h2⟩:=h
 induction h0 generalizing k with
 | one _ _=>simp
 | snoc g0 g1 g2 g3 ih =>
  rename_i r p
  simp only [List.length_append,List.length_cons,List.length_nil] at h1
  have hi:=ih (k:=k - 1) (by omega) (fun r' hr' hl=>by
   cases hb:befB G r' r with
   | false=>rfl
   | true =>
    have:=h2 _ (.snoc hr' g1 g2 g3) (by simp; omega)
    rw [q5C hw p hb] at this; cases this)
  rw [List.map_append,List.nodup_append]
  refine ⟨hi,by simp,fun x hx y hy hxy=>?_⟩
  simp only [List.map_cons,List.map_nil,List.mem_singleton] at hy
  subst hy hxy
  obtain ⟨q,hq,hqp⟩:=List.mem_map.1 hx
  obtain ⟨a,c,hac⟩:=List.append_of_mem hq
  have hpre:=g0.pre hac
  rw [hqp] at hpre
  have:=h2 _ hpre (by rw [hac] at h1; simp at h1 ⊢; omega)
  have hlt:gw G (a++[q]) < gw G (r++[p]):=q5B hw ⟨c++[p],by rw [hac]; simp⟩ (fun h=>by
   have:=congrArg List.length h
   rw [hac] at this; simp at this)
  rw [q3p.2 (.inl hlt)] at this; cases this
end
section
variable (G:Gr) (sta:Nat→Bool) (frm tgt:Nat)
def atE (r:List Nat):Nat:=match r.getLast? with|some p=>G.to p|none=>frm
def grownL:Nat→List Nat→List (List Nat)
 | 0,r=>if atE G frm r=tgt then [r] else []
 | k+1,r=>if atE G frm r=tgt then [r] else if sta (atE G frm r)=true then [] else
   (List.range G.P).flatMap fun p=>if G.fr p=atE G frm r∧G.to p ∉ frm::r.map G.to then grownL k (r++[p]) else []
def routesL:List (List Nat):=((List.range G.P).filter fun p=>decide (G.fr p=frm)).flatMap fun p=>grownL G sta frm tgt 7 [p]
def freeA:Av:=⟨frm,sta,fun _=>false,fun _=>false⟩
end
section
variable {G:Gr} {sta:Nat→Bool} {frm tgt:Nat}
theorem q0N {r:List Nat} {p:Nat}:atE G frm (r++[p])=G.to p:=by simp [atE]
theorem q3q {A:Av} {n:Nat} {r:List Nat} (h:Wk G A n r):atE G frm r=n:=by
 cases h with
 | one _ _=>rfl
 | snoc _ _ _ _=>exact q0N
theorem q9z:∀ (k:Nat) (r0:List Nat),Wk G (freeA sta frm) (atE G frm r0) r0→(r0.map G.to).Nodup→∀ r∈grownL G sta frm tgt k r0,Wk G (freeA sta frm) tgt r∧(r.map G.to).Nodup∧r.length≤r0.length+k:=by
 intro k
 induction k with
 | zero =>
  intro r0 h1 h2 r hr
  unfold grownL at hr
  split at hr
  ·rename_i h; rw [List.mem_singleton.1 hr]; rw [h] at h1; exact ⟨h1,h2,Nat.le_refl _⟩
  ·cases hr
 | succ k ih =>
  intro r0 h1 h2 r hr
  unfold grownL at hr
  split at hr
  ·rename_i h; rw [List.mem_singleton.1 hr]; rw [h] at h1; exact ⟨h1,h2,by omega⟩
  ·split at hr
   ·cases hr
   ·rename_i hs
    rw [List.mem_flatMap] at hr
    obtain ⟨p,hp,hr⟩:=hr
    rw [List.mem_range] at hp
    split at hr
    ·rename_i hc
     obtain ⟨c1,c2⟩:=hc
     rw [List.mem_cons,not_or] at c2
     have hwk:Wk G (freeA sta frm) (G.to p) (r0++[p]):=by
      refine .snoc (by rw [c1]; exact h1) (by rw [c1]; simpa [freeA] using hs) rfl ⟨hp,rfl,c2.1⟩
     obtain ⟨e1,e2,e3⟩:=ih (r0++[p]) (by rw [q0N]; exact hwk) (by
      rw [List.map_append,List.nodup_append]
      refine ⟨h2,by simp,fun x hx y hy hxy=>?_⟩
      simp only [List.map_cons,List.map_nil,List.mem_singleton] at hy
      subst hy hxy
      exact c2.2 hx) r hr
     exact ⟨e1,e2,by simp only [List.length_append,List.length_cons,List.length_nil] at e3; omega⟩
    ·cases hr
theorem q9A {r:List Nat} (h:Wk G (freeA sta frm) tgt r) (hn:(r.map G.to).Nodup):∀ (k:Nat) (r0 x:List Nat),r0≠[]→r=r0++x→x.length≤k→r∈grownL G sta frm tgt k r0:=by
 have hx0:∀ r0:List Nat,r0≠[]→r=r0++[]→atE G frm r0=tgt:=fun r0 h0 he=>by
  rw [List.append_nil] at he; subst he; exact q3q h
 intro k
 induction k with
 | zero =>
  intro r0 x h0 he hl
  obtain rfl:x=[]:=List.eq_nil_of_length_eq_zero (by omega)
  unfold grownL
  rw [if_pos (hx0 r0 h0 he),he,List.append_nil]; simp
 | succ k ih =>
  intro r0 x h0 he hl
  cases x with
  | nil=>unfold grownL; rw [if_pos (hx0 r0 h0 he),he,List.append_nil]; simp
  | cons p x =>
   obtain ⟨r1,q,rfl⟩:∃ r1 q,r0=r1++[q]:=by
    rcases List.eq_nil_or_concat r0 with rfl|⟨r1,q,rfl⟩
    ·exact absurd rfl h0
    ·exact ⟨r1,q,by rw [List.concat_eq_append]⟩
   have hp:=h.pre he
   have hlast:∃ z,(r1++[q]++p::x).getLast? = some z∧G.to z=tgt:=by
    obtain ⟨y,z,hyz⟩:∃ y z,p::x=y++[z]:=by
     rcases List.eq_nil_or_concat (p::x) with h|⟨y,z,h⟩
     ·cases h
     ·exact ⟨y,z,by rw [h,List.concat_eq_append]⟩
    refine ⟨z,by rw [hyz,← List.append_assoc,List.getLast?_concat],?_⟩
    have hh:=h
    rw [he,hyz,← List.append_assoc] at hh
    exact hh.end.symm
   obtain ⟨hok,_,hiv⟩:=hp.inv rfl
   have hs:G.fr p=G.to q∧sta (G.to q)=false:=by
    rcases hiv with ⟨h1,_⟩|⟨h1,h2,_⟩
    ·simp at h1
    ·have:=h1.end
     exact ⟨this,by rw [← this]; exact h2⟩
   have hne:G.to p≠frm:=hp.ne
   have hnd:=hn
   rw [he] at hnd
   unfold grownL
   rw [q0N]
   have hqt:G.to q≠tgt:=by
    obtain ⟨z,hz,hzt⟩:=hlast
    intro hq
    rw [List.map_append,List.map_append,List.nodup_append] at hnd
    have hzm:z∈p::x:=by
     rw [List.getLast?_append] at hz
     cases hg:(p::x).getLast? with
     | none=>simp at hg
     | some z'=>rw [hg] at hz; simp at hz; subst hz; exact List.mem_of_getLast? hg
    exact hnd.2.2 (G.to q) (by simp) (G.to z) (List.mem_map_of_mem hzm) (by rw [hq,hzt])
   rw [if_neg hqt,if_neg (by rw [hs.2]; simp),List.mem_flatMap]
   have hpP:p < G.P:=hok.1
   refine ⟨p,List.mem_range.2 hpP,?_⟩
   rw [if_pos]
   ·exact ih (r1++[q]++[p]) x (by simp) (by rw [he]; simp) (by simp at hl; omega)
   ·refine ⟨hs.1,?_⟩
    rw [List.mem_cons,not_or]
    refine ⟨hne,fun hm=>?_⟩
    rw [List.map_append,List.nodup_append] at hnd
    exact hnd.2.2 _ hm (G.to p) (by simp) rfl
theorem q1j {r:List Nat} (hx:∀ p,p < G.P→G.fr p≠G.to p):r∈routesL G sta frm tgt↔Wk G (freeA sta frm) tgt r∧(r.map G.to).Nodup∧r.length≤8:=by
 simp only [routesL,List.mem_flatMap,List.mem_filter,List.mem_range,decide_eq_true_eq]
 constructor
 ·rintro ⟨p,⟨hp,hf⟩,hr⟩
  have:=q9z 7 [p] (.one ⟨hp,rfl,fun h=>hx p hp (by rw [hf]; exact h.symm)⟩ hf) (by simp) r hr
  exact this
 ·rintro ⟨h1,h2,h3⟩
  have h1':=h1
  cases r with
  | nil=>exact absurd rfl h1.nil
  | cons p x =>
   have hp:=h1.pre (a:=[]) (c:=x) (q:=p) rfl
   obtain ⟨hok,_,hiv⟩:=hp.inv (a:=[]) rfl
   have hq:okp G (freeA sta frm) p∧G.fr p=frm:=⟨hok,by
    rcases hiv with ⟨_,h⟩|⟨h,_⟩
    ·exact h
    ·exact absurd rfl h.nil⟩
   exact ⟨p,⟨hq.1.1,hq.2⟩,q9A h1 h2 7 [p] x (by simp) rfl (by simp at h3; omega)⟩
def avP (G:Gr) (nod lnk:Nat→Bool) (r:List Nat):Prop:=(∀ p∈r,lnk (p / 2)=false)∧∀ q∈r.dropLast,nod (G.to q)=false
theorem wk_av {nod lnk:Nat→Bool} {n:Nat} {r:List Nat}:Wk G ⟨frm,sta,nod,lnk⟩ n r↔Wk G (freeA sta frm) n r∧avP G nod lnk r:=by
 constructor
 ·intro h
  induction h with
  | one h1 h2=>exact ⟨.one ⟨h1.1,rfl,h1.2.2⟩ h2,by simpa using h1.2.1,by simp⟩
  | snoc g0 g1 g2 g3 ih =>
   rename_i r p
   obtain ⟨i1,i2,i3⟩:=ih
   refine ⟨.snoc i1 g1 rfl ⟨g3.1,rfl,g3.2.2⟩,fun q hq=>?_,fun q hq=>?_⟩
   ·rcases List.mem_append.1 hq with hq|hq
    ·exact i2 q hq
    ·rw [List.mem_singleton.1 hq]; exact g3.2.1
   ·rw [List.dropLast_concat] at hq
    obtain ⟨r',x,rfl⟩:∃ r' x,r=r'++[x]:=by
     rcases List.eq_nil_or_concat r with rfl|⟨r',x,rfl⟩
     ·cases hq
     ·exact ⟨r',x,by rw [List.concat_eq_append]⟩
    rcases List.mem_append.1 hq with hq|hq
    ·exact i3 q (by rw [List.dropLast_concat]; exact hq)
    ·rw [List.mem_singleton.1 hq,← g0.end]; exact g2
 ·rintro ⟨h,h1,h2⟩
  induction h with
  | one g1 g2=>exact .one ⟨g1.1,h1 _ (by simp),g1.2.2⟩ g2
  | snoc g0 g1 g2 g3 ih =>
   rename_i r p
   rw [List.dropLast_concat] at h2
   have i:=ih (fun q hq=>h1 q (List.mem_append.2 (.inl hq))) (fun q hq=>h2 q (List.dropLast_subset _ hq))
   refine .snoc i g1 ?_ ⟨g3.1,h1 p (by simp),g3.2.2⟩
   obtain ⟨r',x,rfl⟩:∃ r' x,r=r'++[x]:=by
    rcases List.eq_nil_or_concat r with rfl|⟨r',x,rfl⟩
    ·exact absurd rfl g0.nil
    ·exact ⟨r',x,by rw [List.concat_eq_append]⟩
   have:=h2 x (by simp)
   rw [← g0.end] at this
   exact this
def pickS (G:Gr) (q:List Nat→Bool) (best r:List Nat):List Nat:=if q r=true∧(best=[]∨befB G r best=true) then r else best
def pickL (G:Gr) (q:List Nat→Bool) (l:List (List Nat)):List Nat:=l.foldl (pickS G q) []
theorem q2r {q:List Nat→Bool}:∀ (l:List (List Nat)),(∀ r∈l,r≠[])→(pickL G q l=[]∧∀ r∈l,q r=false)∨pickL G q l≠[]∧pickL G q l∈l∧q (pickL G q l)=true∧∀ r∈l,q r=true→befB G r (pickL G q l)=false:=by
 intro l
 suffices hrev:∀ l:List (List Nat),(∀ r∈l.reverse,r≠[])→(pickL G q l.reverse=[]∧∀ r∈l.reverse,q r=false)∨pickL G q l.reverse≠[]∧pickL G q l.reverse∈l.reverse∧q (pickL G q l.reverse)=true∧∀ r∈l.reverse,q r=true→befB G r (pickL G q l.reverse)=false by
  have:=hrev l.reverse
  rwa [List.reverse_reverse] at this
 intro l
 induction l with
 | nil=>intro _; left; exact ⟨rfl,fun r hr=>(by cases hr)⟩
 | cons x l ih =>
  rw [List.reverse_cons]
  intro hne
  have ih:=ih (fun r hr=>hne r (List.mem_append.2 (.inl hr)))
  have e:pickL G q (l.reverse++[x])=pickS G q (pickL G q l.reverse) x:=by rw [pickL,List.foldl_append]; rfl
  rw [e]
  generalize pickL G q l.reverse=b at *
  have hx:x≠[]:=hne x (by simp)
  unfold pickS
  cases hq:q x with
  | false =>
   rw [if_neg (fun h=>by cases h.1)]
   rcases ih with ⟨h1,h2⟩|⟨h1,h2,h3,h4⟩
   ·left
    refine ⟨h1,fun r hr=>?_⟩
    rcases List.mem_append.1 hr with hr|hr
    ·exact h2 r hr
    ·rw [List.mem_singleton.1 hr]; exact hq
   ·right
    refine ⟨h1,List.mem_append.2 (.inl h2),h3,fun r hr hqr=>?_⟩
    rcases List.mem_append.1 hr with hr|hr
    ·exact h4 r hr hqr
    ·rw [List.mem_singleton.1 hr,hq] at hqr; cases hqr
  | true =>
   right
   by_cases hc:b=[]∨befB G x b=true
   ·rw [if_pos ⟨rfl,hc⟩]
    refine ⟨hx,by simp,hq,fun r hr hqr=>?_⟩
    rcases List.mem_append.1 hr with hr|hr
    ·rcases ih with ⟨h1,h2⟩|⟨h1,h2,h3,h4⟩
     ·rw [h2 r hr] at hqr; cases hqr
     ·have h5:=hc.resolve_left h1
      cases h6:befB G r x with
      | false=>rfl
      | true=>have:=h4 r hr hqr; rw [q1C h6 h5] at this; cases this
    ·rw [List.mem_singleton.1 hr]; exact q13 _
   ·rw [if_neg (fun h=>hc h.2)]
    rcases ih with ⟨h1,h2⟩|⟨h1,h2,h3,h4⟩
    ·exact absurd (.inl h1) hc
    ·refine ⟨h1,List.mem_append.2 (.inl h2),h3,fun r hr hqr=>?_⟩
     rcases List.mem_append.1 hr with hr|hr
     ·exact h4 r hr hqr
     ·rw [List.mem_singleton.1 hr]
      cases h6:befB G x b with
      | false=>rfl
      | true=>exact absurd (.inr h6) hc
theorem q9B (hw:∀ p,0≤G.w p) (hx:∀ p,p < G.P→G.fr p≠G.to p) {nod lnk:Nat→Bool} {most:Nat} (hm:most≤8) {q:List Nat→Bool} (hq:∀ r,q r=true↔r.length≤most∧avP G nod lnk r) :
  dp G ⟨frm,sta,nod,lnk⟩ most tgt=pickL G q (routesL G sta frm tgt):=by
 obtain ⟨b1,b2,b3⟩:=q5D (A:=⟨frm,sta,nod,lnk⟩) hw most
 have b2:=b2 tgt
 have b3:=b3 tgt
 generalize dp G ⟨frm,sta,nod,lnk⟩ most tgt=b at *
 have hne:∀ r∈routesL G sta frm tgt,r≠[]:=fun r hr=>((q1j hx).1 hr).1.nil
 have hin:∀ r∈routesL G sta frm tgt,q r=true→b≠[]∧befB G r b=false:=fun r hr hqr=>by
  obtain ⟨q1,q2⟩:=(hq r).1 hqr
  exact b3 r (wk_av.2 ⟨((q1j hx).1 hr).1,q2⟩) q1
 have hout:b≠[]→b∈routesL G sta frm tgt∧q b=true:=fun hb=>by
  obtain ⟨w1,w2⟩:=b2 hb
  have hs:=Least.simple (k:=most) hw ⟨w1,w2,fun r' hr' hl=>(b3 r' hr' hl).2⟩
  obtain ⟨v1,v2⟩:=wk_av.1 w1
  exact ⟨(q1j hx).2 ⟨v1,hs,by omega⟩,(hq b).2 ⟨w2,v2⟩⟩
 rcases q2r (G:=G) (q:=q) _ hne with ⟨h1,h2⟩|⟨h1,h2,h3,h4⟩
 ·rw [h1]
  refine Classical.byContradiction fun hb=>?_
  obtain ⟨o1,o2⟩:=hout hb
  rw [h2 b o1] at o2; cases o2
 ·obtain ⟨i1,i2⟩:=hin _ h2 h3
  obtain ⟨o1,o2⟩:=hout i1
  exact q1S (h4 b o1 o2) i2
end
end Go.Proofs.Ytnjaokhdeaeegaa
namespace Go.Proofs.Ytnjaokhdeaeegaa
def Ch (G:Gr) (U:Nat→Prop):Nat→List Nat→Nat→Prop
 | u,[],v=>u=v
 | u,p::r,v=>U p∧G.fr p=u∧Ch G U (G.to p) r v
section
variable {G:Gr} {U:Nat→Prop}
theorem q2s:∀ {a b:List Nat} {u v w:Nat},Ch G U u a v→Ch G U v b w→Ch G U u (a++b) w:=by
 intro a
 induction a with
 | nil=>intro b u v w h1 h2; rw [show u=v from h1]; exact h2
 | cons p a ih=>intro b u v w h1 h2; exact ⟨h1.1,h1.2.1,ih h1.2.2 h2⟩
theorem q9C:∀ {a b:List Nat} {u w:Nat},Ch G U u (a++b) w→∃ v,Ch G U u a v∧Ch G U v b w:=by
 intro a
 induction a with
 | nil=>intro b u w h; exact ⟨u,rfl,h⟩
 | cons p a ih =>
  intro b u w h
  obtain ⟨v,h1,h2⟩:=ih h.2.2
  exact ⟨v,⟨h.1,h.2.1,h1⟩,h2⟩
theorem q9D {a:List Nat} {u v p:Nat} (h:Ch G U u (a++[p]) v):G.to p=v:=by
 obtain ⟨x,_,h2⟩:=q9C h
 exact h2.2.2
theorem q9E {U':Nat→Prop}:∀ {r:List Nat} {u v:Nat},(∀ p∈r,U p→U' p)→Ch G U u r v→Ch G U' u r v:=by
 intro r
 induction r with
 | nil=>intro u v _ h; exact h
 | cons p r ih=>intro u v hm h; exact ⟨hm p (by simp) h.1,h.2.1,ih (fun q hq=>hm q (by simp [hq])) h.2.2⟩
theorem q5E:∀ {r:List Nat} {u v:Nat},Ch G U u r v→∀ p∈r,U p:=by
 intro r
 induction r with
 | nil=>intro u v _ p hp; cases hp
 | cons q r ih =>
  intro u v h p hp
  cases hp with
  | head=>exact h.1
  | tail _ hp=>exact ih h.2.2 p hp
theorem q3r {r:List Nat} {u v:Nat} (h:Ch G U u r v) (hr:r≠[]):∃ a p,r=a++[p]∧G.to p=v:=by
 rcases List.eq_nil_or_concat r with rfl|⟨a,p,rfl⟩
 ·exact absurd rfl hr
 ·rw [List.concat_eq_append] at h ⊢
  exact ⟨a,p,rfl,q9D h⟩
theorem q2t {r:List Nat} {u v:Nat} (h:Ch G U u r v) (hr:r≠[]):v∈r.map G.to:=by
 obtain ⟨a,p,rfl,e⟩:=q3r h hr
 rw [← e]; simp
theorem ch_fr:∀ {r:List Nat} {u v:Nat},Ch G U u r v→∀ p∈r,G.fr p=u∨G.fr p∈r.dropLast.map G.to:=by
 intro r
 induction r with
 | nil=>intro u v _ p hp; cases hp
 | cons q r ih =>
  intro u v h p hp
  cases hp with
  | head=>exact .inl h.2.1
  | tail _ hp =>
   right
   cases r with
   | nil=>cases hp
   | cons q' r =>
    rw [List.dropLast_cons₂,List.map_cons,List.mem_cons]
    exact ih h.2.2 p hp
theorem q5F:∀ {r:List Nat} {u v n:Nat},Ch G U u r v→n∈u::r.map G.to→∃ a b,r=a++b∧Ch G U u a n∧Ch G U n b v:=by
 intro r
 induction r with
 | nil =>
  intro u v n h hn
  simp only [List.map_nil,List.mem_singleton] at hn
  subst hn
  exact ⟨[],[],rfl,rfl,h⟩
 | cons p r ih =>
  intro u v n h hn
  rw [List.mem_cons] at hn
  rcases hn with rfl|hn
  ·exact ⟨[],p::r,rfl,rfl,h⟩
  ·obtain ⟨a,b,e,h1,h2⟩:=ih h.2.2 hn
   exact ⟨p::a,b,by rw [e]; rfl,⟨h.1,h.2.1,h1⟩,h2⟩
end
structure Fan (G:Gr) (U:Nat→Prop) (a b x:Nat) (P Q T:List Nat):Prop where
 c1:Ch G U a P x
 c2:Ch G U a Q x
 c3:Ch G U x T b
 s1:(a::P.map G.to).Nodup
 s2:(a::Q.map G.to).Nodup
 s3:(x::T.map G.to).Nodup
 d12:∀ n∈P.dropLast.map G.to,n ∉ Q.map G.to
 d1:∀ n∈T.map G.to,n≠a∧n ∉ P.map G.to∧n ∉ Q.map G.to
 n1:P≠[]
 n2:Q≠[]
 hd:∀ p q r s,P=p::r→Q=q::s→p / 2≠q / 2
theorem q1T {G:Gr} {U:Nat→Prop} {u v n:Nat} {r:List Nat} (h:Ch G U u r v) (hn:(r.map G.to).Nodup) (hm:n∈r.dropLast.map G.to):n≠v:=by
 have hr:r≠[]:=by rintro rfl; simp at hm
 obtain ⟨a,p,rfl,e⟩:=q3r h hr
 rw [List.dropLast_concat] at hm
 rw [List.map_append,List.nodup_append] at hn
 rw [← e]
 exact hn.2.2 n hm _ (by simp)
theorem q2u {G:Gr} {U:Nat→Prop} {u v n:Nat} {r:List Nat} (h:Ch G U u r v) (hm:n∈r.map G.to):n∈r.dropLast.map G.to∨n=v:=by
 have hr:r≠[]:=by rintro rfl; simp at hm
 obtain ⟨a,p,rfl,e⟩:=q3r h hr
 rw [List.dropLast_concat]
 rw [List.map_append,List.mem_append] at hm
 rcases hm with hm|hm
 ·exact .inl hm
 ·simp only [List.map_cons,List.map_nil,List.mem_singleton] at hm
  right; rw [hm,e]
theorem q0S {G:Gr} {n:Nat} {r:List Nat} (hm:n∈r.dropLast.map G.to):n∈r.map G.to:=by
 obtain ⟨q,hq,e⟩:=List.mem_map.1 hm
 rw [← e]
 exact List.mem_map_of_mem (List.dropLast_subset _ hq)
section
variable {G:Gr} {U:Nat→Prop} {a b:Nat}
theorem Fan.swap {x:Nat} {P Q T:List Nat} (h:Fan G U a b x P Q T):Fan G U a b x Q P T:=by
 refine ⟨h.c2,h.c1,h.c3,h.s2,h.s1,h.s3,fun n hn hp=>?_,fun n hn=>⟨(h.d1 n hn).1,(h.d1 n hn).2.2,(h.d1 n hn).2.1⟩,h.n2,h.n1,fun p q r s h1 h2 e=>h.hd q p s r h2 h1 e.symm⟩
 rcases q2u h.c1 hp with hp|rfl
 ·exact h.d12 n hp (q0S hn)
 ·exact q1T h.c2 (List.nodup_cons.1 h.s2).2 hn rfl
theorem Fan.step (hbk:∀ p q,U p→U q→p / 2=q / 2→p=q∨G.fr p=G.to q∧G.to p=G.fr q) {x:Nat} {P Q T:List Nat} (h:Fan G U a b x P Q T) {S:List Nat} {y z:Nat}
  (hy:y=a∨y∈P.dropLast.map G.to) (hz:z∈T.map G.to) (hS:S≠[]) (cS:Ch G U y S z) (sS:(y::S.map G.to).Nodup)
  (hin:∀ n∈S.dropLast.map G.to,n≠x∧n≠a∧n ∉ P.map G.to∧n ∉ Q.map G.to∧n ∉ T.map G.to) :
  ∃ x' P' Q' T',Fan G U a b x' P' Q' T'∧T'.length < T.length:=by
 -- the part of T up to z
 obtain ⟨T1,T2,eT,cT1,cT2⟩:=q5F h.c3 (List.mem_cons_of_mem x hz)
 have hT1:T1≠[]:=by
  rintro rfl
  have:x=z:=cT1
  rw [← this] at hz
  exact (List.nodup_cons.1 h.s3).1 hz
 -- the part of P up to y
 have hP:∃ X Y,P=X++Y∧Y≠[]∧Ch G U a X y:=by
  rcases hy with rfl|hy
  ·exact ⟨[],P,rfl,h.n1,rfl⟩
  ·obtain ⟨X,Y,e,e1,e2⟩:=q5F h.c1 (List.mem_cons_of_mem a (q0S hy))
   refine ⟨X,Y,e,?_,e1⟩
   rintro rfl
   have:y=x:=e2
   exact q1T h.c1 (List.nodup_cons.1 h.s1).2 hy this
 obtain ⟨X,Y,eP,hY,cX⟩:=hP
 have hXin:∀ n∈X.map G.to,n∈P.dropLast.map G.to:=fun n hn=>by
  rw [eP,List.dropLast_append_of_ne_nil hY,List.map_append]
  exact List.mem_append.2 (.inl hn)
 have s1':=List.nodup_cons.1 h.s1
 have s2':=List.nodup_cons.1 h.s2
 have s3':=List.nodup_cons.1 h.s3
 have sS':=List.nodup_cons.1 sS
 have hT1s:∀ n∈T1.map G.to,n∈T.map G.to:=fun n hn=>by rw [eT,List.map_append]; exact List.mem_append.2 (.inl hn)
 have hT2s:∀ n∈T2.map G.to,n∈T.map G.to:=fun n hn=>by rw [eT,List.map_append]; exact List.mem_append.2 (.inr hn)
 have sT:=s3'.2
 rw [eT,List.map_append,List.nodup_append] at sT
 have hxQ:x∈Q.map G.to:=q2t h.c2 h.n2
 have hSin:∀ n∈S.map G.to,n∈S.dropLast.map G.to∨n=z:=fun n hn=>q2u cS hn
 have hXP:∀ n∈X.map G.to,n∈P.map G.to:=fun n hn=>q0S (hXin n hn)
 refine ⟨z,Q++T1,X++S,T2,⟨q2s h.c2 cT1,q2s cX cS,cT2,?_,?_,?_,?_,?_,?_,?_,?_⟩,?_⟩
 ·rw [List.map_append,← List.cons_append,List.nodup_append]
  refine ⟨h.s2,sT.1,fun n hn m hm hnm=>?_⟩
  subst hnm
  obtain ⟨d1,d2,d3⟩:=h.d1 n (hT1s n hm)
  rcases List.mem_cons.1 hn with hn|hn
  ·exact d1 hn
  ·exact d3 hn
 ·rw [List.map_append,← List.cons_append,List.nodup_append]
  refine ⟨?_,sS'.2,fun n hn m hm hnm=>?_⟩
  ·have:=h.s1
   rw [eP,List.map_append,← List.cons_append,List.nodup_append] at this
   exact this.1
  ·subst hnm
   rcases hSin n hm with hm'|rfl
   ·obtain ⟨i1,i2,i3,i4,i5⟩:=hin n hm'
    rcases List.mem_cons.1 hn with hn|hn
    ·exact i2 hn
    ·exact i3 (hXP n hn)
   ·obtain ⟨d1,d2,d3⟩:=h.d1 n hz
    rcases List.mem_cons.1 hn with hn|hn
    ·exact d1 hn
    ·exact d2 (hXP n hn)
 ·rw [List.nodup_cons]
  refine ⟨fun hm=>?_,sT.2.1⟩
  exact sT.2.2 z (q2t cT1 hT1) z hm rfl
 ·intro n hn hm
  rw [List.dropLast_append_of_ne_nil hT1,List.map_append,List.mem_append] at hn
  rw [List.map_append,List.mem_append] at hm
  rcases hm with hm|hm
  ·have hXi:=hXin n hm
   rcases hn with hn|hn
   ·exact h.d12 n hXi hn
   ·exact (h.d1 n (hT1s n (q0S hn))).2.1 (hXP n hm)
  ·rcases hSin n hm with hm|rfl
   ·obtain ⟨i1,i2,i3,i4,i5⟩:=hin n hm
    rcases hn with hn|hn
    ·exact i4 hn
    ·exact i5 (hT1s n (q0S hn))
   ·rcases hn with hn|hn
    ·exact (h.d1 n hz).2.2 hn
    ·exact q1T cT1 sT.1 hn rfl
 ·intro n hn
  obtain ⟨d1,d2,d3⟩:=h.d1 n (hT2s n hn)
  refine ⟨d1,fun hm=>?_,fun hm=>?_⟩
  ·rw [List.map_append,List.mem_append] at hm
   rcases hm with hm|hm
   ·exact d3 hm
   ·exact sT.2.2 n hm n hn rfl
  ·rw [List.map_append,List.mem_append] at hm
   rcases hm with hm|hm
   ·exact d2 (hXP n hm)
   ·rcases hSin n hm with hm|rfl
    ·exact (hin n hm).2.2.2.2 (hT2s n hn)
    ·exact sT.2.2 n (q2t cT1 hT1) n hn rfl
 ·intro he; exact h.n2 (List.append_eq_nil_iff.1 he).1
 ·intro he; exact hS (List.append_eq_nil_iff.1 he).2
 ·intro p q r s e1 e2 heq
  obtain ⟨q1,Q',eQ⟩:∃ q1 Q',Q=q1::Q':=by
   cases Q with
   | nil=>exact absurd rfl h.n2
   | cons q1 Q'=>exact ⟨q1,Q',rfl⟩
  have hp:p=q1:=by rw [eQ] at e1; simp at e1; exact e1.1.symm
  subst hp
  cases X with
  | cons x1 X =>
   have hq:q=x1:=by simp at e2; exact e2.1.symm
   subst hq
   exact h.hd q p (X++Y) Q' (by rw [eP]; rfl) eQ heq.symm
  | nil =>
   have e2:S=q::s:=by simpa using e2
   have hya:a=y:=cX
   subst hya
   have hcq:=h.c2
   rw [eQ] at hcq
   rw [e2] at cS
   rcases hbk p q hcq.1 cS.1 heq with rfl|⟨k1,k2⟩
   · -- the same port: its end stands in both
    have m1:G.to p∈Q.map G.to:=by rw [eQ]; simp
    rcases hSin (G.to p) (by rw [e2]; simp) with hm|hm
    ·exact (hin _ hm).2.2.2.1 m1
    ·rw [hm] at m1; exact (h.d1 z hz).2.2 m1
   ·rw [hcq.2.1] at k1
    exact sS'.1 (by rw [k1,e2]; simp)
 ·rw [eT,List.length_append]
  have:0 < T1.length:=List.length_pos_iff.2 hT1
  omega
end
section
variable {G:Gr} {U:Nat→Prop} {a b:Nat}
def Apart2 (G:Gr) (r s:List Nat):Prop:=(∀ p∈r,∀ q∈s,p / 2≠q / 2)∧∀ n∈r.dropLast.map G.to,n ∉ s.dropLast.map G.to
theorem Fan.done (hbk:∀ p q,U p→U q→p / 2=q / 2→p=q∨G.fr p=G.to q∧G.to p=G.fr q) {P Q T:List Nat} (h:Fan G U a b b P Q T):Apart2 G P Q:=by
 refine ⟨fun p hp q hq he=>?_,fun n hn hm=>h.d12 n hn (q0S hm)⟩
 have fp:=ch_fr h.c1 p hp
 have fq:=ch_fr h.c2 q hq
 have tp:=q2u h.c1 (List.mem_map_of_mem (f:=G.to) hp)
 have tq:=q2u h.c2 (List.mem_map_of_mem (f:=G.to) hq)
 have s1':=List.nodup_cons.1 h.s1
 have s2':=List.nodup_cons.1 h.s2
 have hab:a≠b:=fun e=>s1'.1 (by rw [e]; exact q2t h.c1 h.n1)
 have ha1:∀ n∈P.dropLast.map G.to,n≠a:=fun n hn e=>s1'.1 (by rw [← e]; exact q0S hn)
 have ha2:∀ n∈Q.dropLast.map G.to,n≠a:=fun n hn e=>s2'.1 (by rw [← e]; exact q0S hn)
 have hb1:∀ n∈P.dropLast.map G.to,n≠b:=fun n hn=>q1T h.c1 s1'.2 hn
 have hb2:∀ n∈Q.dropLast.map G.to,n≠b:=fun n hn=>q1T h.c2 s2'.2 hn
 have hdis:∀ n,n∈P.dropLast.map G.to→n∈Q.dropLast.map G.to→False:=fun n h1 h2=>h.d12 n h1 (q0S h2)
 -- a port that sends from the beginning is the first one
 have first:∀ {R:List Nat},Ch G U a R b→(a::R.map G.to).Nodup→∀ p∈R,G.fr p=a→∃ r,R=p::r:=by
  intro R hc hs p hp hf
  cases R with
  | nil=>cases hp
  | cons p' R =>
   cases hp with
   | head=>exact ⟨R,rfl⟩
   | tail _ hp =>
    have hs':=List.nodup_cons.1 hs
    rcases ch_fr hc.2.2 p hp with e|e
    ·exact absurd (by rw [← hf,e]; simp) hs'.1
    ·exact absurd (by rw [← hf]; exact List.mem_cons_of_mem _ (q0S e)) hs'.1
 rcases hbk p q (q5E h.c1 p hp) (q5E h.c2 q hq) he with rfl|⟨k1,k2⟩
 ·rcases fp with fp|fp
  ·obtain ⟨r,e1⟩:=first h.c1 h.s1 p hp fp
   obtain ⟨s,e2⟩:=first h.c2 h.s2 p hq fp
   exact h.hd p p r s e1 e2 rfl
  ·rcases fq with fq|fq
   ·exact ha1 _ fp fq
   ·exact hdis _ fp fq
 · -- reversed
  rw [k1] at fp
  rw [← k2] at fq
  rcases fp with fp|fp
  ·rcases tq with tq|tq
   ·exact ha2 _ tq fp
   ·exact hab (by rw [← fp,tq])
  ·rcases tq with tq|tq
   ·exact hdis _ fp tq
   ·exact hb1 _ fp tq
end
end Go.Proofs.Ytnjaokhdeaeegaa
namespace Go.Proofs.Ytnjaokhdeaeegaa
section
variable (G:Gr) (sta:Nat→Bool) (frm:Nat)
def badP (node link:Int) (p:Nat):Bool:=decide (((p / 2:Nat):Int)=link) || (decide (((G.fr p:Nat):Int)=node) || (decide (G.fr p≠frm) && sta (G.fr p)))
def jnE (node link:Int) (p:Nat):List Ed:=if badP G sta frm node link p=true then [] else [⟨G.to p,G.fr p,0⟩]
def jnEs (node link:Int):List Ed:=(List.range G.P).flatMap (jnE G sta frm node link)
def jnB (N:Nat) (node link:Int) (i:Nat):Bool:=iter (sprB (jnEs G sta frm node link)) N (fun j=>decide (j=frm)) i
end
section
variable {G:Gr} {sta:Nat→Bool} {frm:Nat}
theorem qiV {node link:Int} {p:Nat}:badP G sta frm node link p=false↔((p / 2:Nat):Int)≠link∧((G.fr p:Nat):Int)≠node∧(G.fr p=frm∨sta (G.fr p)=false):=by
 simp only [badP,Bool.or_eq_false_iff,Bool.and_eq_false_iff,decide_eq_false_iff_not,Classical.not_not]
theorem q9F {N:Nat} (hN:∀ p,p < G.P→G.to p < N) {node link:Int} {i:Nat}:jnB G sta frm N node link i=true↔∃ r,Ch G (fun p=>p < G.P∧badP G sta frm node link p=false) frm r i:=by
 have hmem:∀ e,e∈jnEs G sta frm node link↔∃ p,p < G.P∧badP G sta frm node link p=false∧e=⟨G.to p,G.fr p,0⟩:=fun e=>by
  simp only [jnEs,List.mem_flatMap,List.mem_range]
  constructor
  ·rintro ⟨p,hp,he⟩
   unfold jnE at he
   cases hb:badP G sta frm node link p with
   | true=>rw [hb,if_pos rfl] at he; cases he
   | false=>rw [hb,if_neg (by simp)] at he; exact ⟨p,hp,hb,List.mem_singleton.1 he⟩
  ·rintro ⟨p,hp,hb,rfl⟩
   refine ⟨p,hp,?_⟩
   rw [jnE,hb,if_neg (by simp)]
   exact List.mem_singleton.2 rfl
 rw [jnB,q5z (fun e he=>by obtain ⟨p,hp,_,rfl⟩:=(hmem e).1 he; exact hN p hp)]
 constructor
 ·have key:∀ {i k:Nat},Cn (jnEs G sta frm node link) i k→∃ r,Ch G (fun p=>p < G.P∧badP G sta frm node link p=false) k r i:=by
   intro i k h
   induction h with
   | refl=>exact ⟨[],rfl⟩
   | step he _ ih =>
    obtain ⟨p,hp,hb,rfl⟩:=(hmem _).1 he
    obtain ⟨r,hr⟩:=ih
    exact ⟨r++[p],q2s hr ⟨⟨hp,hb⟩,rfl,rfl⟩⟩
  exact key
 ·rintro ⟨r,hr⟩
  have key:∀ {r:List Nat} {u v:Nat},Ch G (fun p=>p < G.P∧badP G sta frm node link p=false) u r v→Cn (jnEs G sta frm node link) v u:=by
   intro r
   induction r with
   | nil=>intro u v h; rw [show u=v from h]; exact .refl _
   | cons p r ih =>
    intro u v h
    have h2:=ih h.2.2
    refine h2.trans ?_
    have he:=(hmem ⟨G.to p,G.fr p,0⟩).2 ⟨p,h.1.1,h.1.2,rfl⟩
    have:=Cn.step he (Cn.refl (E:=jnEs G sta frm node link) (G.fr p))
    rw [← h.2.1]
    exact this
  exact key hr
theorem q9G {A:Av} {n:Nat} {r:List Nat} (h:Wk G A n r):Ch G (fun p=>p < G.P∧A.lnk (p / 2)=false∧(G.fr p=A.from_∨A.sta (G.fr p)=false∧A.nod (G.fr p)=false)) A.from_ r n:=by
 induction h with
 | one h1 h2=>exact ⟨⟨h1.1,h1.2.1,.inl h2⟩,h2,rfl⟩
 | snoc g0 g1 g2 g3 ih=>exact q2s ih ⟨⟨g3.1,g3.2.1,.inr ⟨g1,g2⟩⟩,rfl,rfl⟩
theorem wk_jn {N:Nat} (hN:∀ p,p < G.P→G.to p < N) {nod lnk:Nat→Bool} {node link:Int} {n:Nat} {r:List Nat} (h:Wk G ⟨frm,sta,nod,lnk⟩ n r) (h1:∀ k,((k:Nat):Int)=node→k≠frm∧nod k=true) (h2:∀ k,((k:Nat):Int)=link→lnk k=true):jnB G sta frm N node link n=true:=by
 refine (q9F hN).2 ⟨r,q9E (fun p _ hp=>⟨hp.1,qiV.2 ⟨fun e=>?_,fun e=>?_,?_⟩⟩) (q9G h)⟩
 ·have:=h2 _ e
  have hp2:lnk (p / 2)=false:=hp.2.1
  rw [this] at hp2; cases hp2
 ·obtain ⟨e1,e2⟩:=h1 _ e
  rcases hp.2.2 with k|k
  ·exact e1 k
  ·have k2:nod (G.fr p)=false:=k.2
   rw [e2] at k2; cases k2
 ·exact hp.2.2.elim .inl fun k=>.inr k.1
end
end Go.Proofs.Ytnjaokhdeaeegaa
namespace Go.Proofs.Ytnjaokhdeaeegaa
instance (G:Gr) (r s:List Nat):Decidable (Apart2 G r s):=inferInstanceAs (Decidable (_∧_))
def apB (G:Gr) (r s:List Nat):Bool:=decide (Apart2 G r s)
def paS (G:Gr) (l:List (List Nat)) (s:List Nat × List Nat) (r:List Nat):List Nat × List Nat :=
 if s.1≠[]∧befB G r s.1=false then s else if pickL G (apB G r) l≠[] then (r,pickL G (apB G r) l) else s
def pairR (G:Gr) (l:List (List Nat)):List Nat × List Nat:=l.foldl (paS G l) ([],[])
def pairS (G:Gr) (S:List (List Nat)):List Nat × List Nat :=
 match S.find? (fun a=>S.any (apB G a)) with
 | some a=>(a,(S.find? (apB G a)).getD [])
 | none=>([],[])
section
variable {G:Gr}
theorem q3s {q:List Nat→Bool}:∀ {S:List (List Nat)} {a:List Nat},S.Pairwise (fun a b=>befB G b a=false)→S.find? q=some a→a∈S∧q a=true∧∀ r∈S,q r=true→befB G r a=false:=by
 intro S
 induction S with
 | nil=>intro a _ h; cases h
 | cons x S ih =>
  intro a hp h
  rw [List.pairwise_cons] at hp
  rw [List.find?_cons] at h
  cases hq:q x with
  | true =>
   rw [hq] at h
   simp only [Option.some.injEq] at h
   subst h
   refine ⟨by simp,hq,fun r hr _=>?_⟩
   rcases List.mem_cons.1 hr with rfl|hr
   ·exact q13 _
   ·exact hp.1 r hr
  | false =>
   rw [hq] at h
   obtain ⟨h1,h2,h3⟩:=ih hp.2 h
   refine ⟨List.mem_cons_of_mem _ h1,h2,fun r hr hqr=>?_⟩
   rcases List.mem_cons.1 hr with rfl|hr
   ·rw [hq] at hqr; cases hqr
   ·exact h3 r hr hqr
theorem q5G {q:List Nat→Bool} {S l:List (List Nat)} (hs:S.Pairwise (fun a b=>befB G b a=false)) (hm:∀ r,r∈S↔r∈l) (hne:∀ r∈l,r≠[]):(S.find? q).getD []=pickL G q l:=by
 rcases q2r (G:=G) (q:=q) l hne with ⟨h1,h2⟩|⟨h1,h2,h3,h4⟩
 ·rw [h1]
  cases hf:S.find? q with
  | none=>rfl
  | some a =>
   obtain ⟨k1,k2,_⟩:=q3s hs hf
   rw [h2 a ((hm a).1 k1)] at k2; cases k2
 ·cases hf:S.find? q with
  | none =>
   rw [List.find?_eq_none] at hf
   exact absurd h3 (hf _ ((hm _).2 h2))
  | some a =>
   obtain ⟨k1,k2,k3⟩:=q3s hs hf
   exact q1S (h4 a ((hm a).1 k1) k2) (k3 _ ((hm _).2 h2) h3)
theorem q9H (l:List (List Nat)) (hne:∀ r∈l,r≠[]):pairR G l=(pickL G (fun r=>decide (pickL G (apB G r) l≠[])) l,if pickL G (fun r=>decide (pickL G (apB G r) l≠[])) l=[] then [] else pickL G (apB G (pickL G (fun r=>decide (pickL G (apB G r) l≠[])) l)) l):=by
 have key:∀ (m:List (List Nat)),(∀ r∈m,r≠[])→∀ (a:List Nat),m.foldl (paS G l) (a,if a=[] then [] else pickL G (apB G a) l)=(m.foldl (pickS G (fun r=>decide (pickL G (apB G r) l≠[]))) a,if m.foldl (pickS G (fun r=>decide (pickL G (apB G r) l≠[]))) a=[] then [] else pickL G (apB G (m.foldl (pickS G (fun r=>decide (pickL G (apB G r) l≠[]))) a)) l):=by
  intro m
  induction m with
  | nil=>intro _ a; rfl
  | cons r m ih =>
   intro hm a
   have hr:r≠[]:=hm r (by simp)
   have ih:=ih (fun x hx=>hm x (by simp [hx]))
   rw [List.foldl_cons,List.foldl_cons]
   have e:paS G l (a,if a=[] then [] else pickL G (apB G a) l) r=(pickS G (fun r=>decide (pickL G (apB G r) l≠[])) a r,if pickS G (fun r=>decide (pickL G (apB G r) l≠[])) a r=[] then [] else pickL G (apB G (pickS G (fun r=>decide (pickL G (apB G r) l≠[])) a r)) l):=by
    unfold paS pickS
    dsimp only
    by_cases h1:a≠[]∧befB G r a=false
    ·have hc:¬ (decide (pickL G (apB G r) l≠[])=true∧(a=[]∨befB G r a=true)):=by
      rintro ⟨_,h|h⟩
      ·exact h1.1 h
      ·rw [h1.2] at h; cases h
     rw [if_pos h1,if_neg hc]
    ·rw [if_neg h1]
     have h1':a=[]∨befB G r a=true:=by
      by_cases ha:a=[]
      ·exact .inl ha
      ·right
       cases hb:befB G r a with
       | true=>rfl
       | false=>exact absurd ⟨ha,hb⟩ h1
     by_cases h2:pickL G (apB G r) l≠[]
     ·have hc:decide (pickL G (apB G r) l≠[])=true∧(a=[]∨befB G r a=true):=⟨decide_eq_true h2,h1'⟩
      rw [if_pos h2,if_pos hc,if_neg hr]
     ·have hc:¬ (decide (pickL G (apB G r) l≠[])=true∧(a=[]∨befB G r a=true)):=fun h=>h2 (of_decide_eq_true h.1)
      rw [if_neg h2,if_neg hc]
   rw [e]
   exact ih _
 exact key l hne []
theorem q9I {S l:List (List Nat)} (hs:S.Pairwise (fun a b=>befB G b a=false)) (hm:∀ r,r∈S↔r∈l) (hne:∀ r∈l,r≠[]):pairS G S=pairR G l:=by
 rw [q9H l hne]
 have hany:(fun a=>S.any (apB G a))=fun r=>decide (pickL G (apB G r) l≠[]):=by
  funext r
  rw [Bool.eq_iff_iff,decide_eq_true_eq,List.any_eq_true]
  rcases q2r (G:=G) (q:=apB G r) l hne with ⟨h1,h2⟩|⟨h1,h2,h3,h4⟩
  ·constructor
   ·rintro ⟨x,hx,ha⟩
    rw [h2 x ((hm x).1 hx)] at ha; cases ha
   ·exact fun h=>absurd h1 h
  ·exact ⟨fun _=>h1,fun _=>⟨_,(hm _).2 h2,h3⟩⟩
 have hf:=q5G (q:=fun a=>S.any (apB G a)) hs hm hne
 rw [hany] at hf
 unfold pairS
 rw [hany,← hf]
 cases hq:S.find? (fun r=>decide (pickL G (apB G r) l≠[])) with
 | none=>rfl
 | some a =>
  have ha:a≠[]:=hne a ((hm a).1 (q3s hs hq).1)
  simp only [Option.getD_some,if_neg ha]
  rw [q5G hs hm hne]
end
end Go.Proofs.Ytnjaokhdeaeegaa
