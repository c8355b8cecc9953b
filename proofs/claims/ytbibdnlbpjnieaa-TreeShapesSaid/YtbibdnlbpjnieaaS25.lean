/- Part 25 of the proof of TreeShapes. -/
import Derived.Test.YtbibdnlbpjnieaaS24
set_option linter.all false
set_option maxRecDepth 100000
set_option maxHeartbeats 4000000
namespace Go.Proofs.Ytbibdnlbpjnieaa
open Go Go.Abs
def kE (cut:Nat→Bool) (i:Nat) (l:Lk):List Ed:=if cut i=true then [] else [⟨l.a.toNat,l.b.toNat,0⟩,⟨l.b.toNat,l.a.toNat,0⟩]
def kEs (cut:Nat→Bool):Nat→List Lk→List Ed
 | _,[]=>[]
 | i,l::ls=>kE cut i l++kEs cut (i+1) ls
def RelS (N:Nat) (r:List Bool) (S:Nat→Bool):Prop:=r.length=N∧∀ n,n < N→r[n]? = some (S n)
theorem rStep_rel {N:Nat} {cut:Nat→Bool} {i:Nat} {r:List Bool} {S:Nat→Bool} {l:Lk} (h:RelS N r S) (ha:l.a.toNat < N) (hb:l.b.toNat < N) (hab:l.a.toNat≠l.b.toNat):RelS N (rStep cut i r l) (sprB (kE cut i l) S):=by
 obtain ⟨h1,h2⟩:=h
 have ea:rB r l.a=S l.a.toNat:=by rw [rB,h2 _ ha]; rfl
 have eb:rB r l.b=S l.b.toNat:=by rw [rB,h2 _ hb]; rfl
 unfold rStep kE
 rw [ea,eb]
 generalize l.a.toNat=A at *
 generalize l.b.toNat=B at *
 cases hc:cut i with
 | true=>simp only [Bool.not_true,Bool.false_and,Bool.false_eq_true,if_false,if_true]; exact ⟨h1,h2⟩
 | false =>
  simp only [Bool.not_false,Bool.true_and,Bool.false_eq_true,if_false]
  have hv:∀ n,sprB [⟨A,B,0⟩,⟨B,A,0⟩] S n=if n=A∨n=B then (S A || S B) else S n:=by
   intro n
   show bpE (bpE S ⟨A,B,0⟩) ⟨B,A,0⟩ n=_
   unfold bpE
   by_cases hn:n=B
   ·subst hn
    rw [if_pos (.inr rfl),setF_same]
    simp only [setF_same]
    rw [setF_ne (fun h=>hab h.symm)]
    cases S A <;> cases S n <;> rfl
   ·rw [setF_ne hn]
    by_cases hn2:n=A
    ·subst hn2; rw [if_pos (.inl rfl),setF_same]
    ·rw [if_neg (fun h=>h.elim hn2 hn),setF_ne hn2]
  refine ⟨?_,fun n hn=>?_⟩
  ·split <;> simp [h1]
  ·rw [hv n]
   by_cases hq:(S A != S B)=true
   ·rw [if_pos hq]
    have hor:(S A || S B)=true:=by revert hq; cases S A <;> cases S B <;> decide
    by_cases hn2:n=B
    ·subst hn2; rw [if_pos (.inr rfl),List.getElem?_set_self (by simp; omega),hor]
    ·rw [List.getElem?_set_ne (fun h=>hn2 h.symm)]
     by_cases hn3:n=A
     ·subst hn3; rw [if_pos (.inl rfl),List.getElem?_set_self (by omega),hor]
     ·rw [if_neg (fun h=>h.elim hn3 hn2),List.getElem?_set_ne (fun h=>hn3 h.symm)]
      exact h2 n hn
   ·rw [if_neg hq,h2 n hn]
    have heq:S A=S B:=by revert hq; cases S A <;> cases S B <;> decide
    by_cases hn2:n=A∨n=B
    ·rw [if_pos hn2]
     rcases hn2 with rfl|rfl
     ·rw [heq]; simp
     ·rw [heq]; simp
    ·rw [if_neg hn2]
theorem rRound_rel {N:Nat} {cut:Nat→Bool}:∀ (ls:List Lk) (i:Nat) (r:List Bool) (S:Nat→Bool),(∀ l∈ls,l.a.toNat < N∧l.b.toNat < N∧l.a.toNat≠l.b.toNat)→RelS N r S→RelS N (rRound cut i ls r) (sprB (kEs cut i ls) S):=by
 intro ls
 induction ls with
 | nil=>intro i r S _ h; exact h
 | cons l ls ih =>
  intro i r S hv h
  have h0:=hv l (by simp)
  have h1:=rStep_rel (cut:=cut) (i:=i) h h0.1 h0.2.1 h0.2.2
  have h2:=ih (i+1) _ _ (fun m hm=>hv m (by simp [hm])) h1
  rw [rRound,kEs,sprB,List.foldl_append]
  exact h2
theorem iter_comm {σ:Type} (f:σ→σ):∀ (n:Nat) (s:σ),iter f n (f s)=f (iter f n s):=by
 intro n
 induction n with
 | zero=>intro s; rfl
 | succ n ih=>intro s; show f (iter f n (f s))=_; rw [ih]; rfl
theorem rIter_rel {N:Nat} {cut:Nat→Bool} {ls:List Lk} (hv:∀ l∈ls,l.a.toNat < N∧l.b.toNat < N∧l.a.toNat≠l.b.toNat):∀ (n:Nat) (r:List Bool) (S:Nat→Bool),RelS N r S→RelS N (rIter cut ls n r) (iter (sprB (kEs cut 0 ls)) n S):=by
 intro n
 induction n with
 | zero=>intro r S h; exact h
 | succ n ih =>
  intro r S h
  have:=ih _ _ (rRound_rel (cut:=cut) ls 0 r S hv h)
  rw [rIter]
  rwa [iter_comm] at this
theorem kEs_mem {cut:Nat→Bool} {e:Ed}:∀ (ls:List Lk) (i:Nat),e∈kEs cut i ls↔∃ j l,ls[j]? = some l∧cut (i+j)=false∧(e=⟨l.a.toNat,l.b.toNat,0⟩∨e=⟨l.b.toNat,l.a.toNat,0⟩):=by
 intro ls
 induction ls with
 | nil=>intro i; simp [kEs]
 | cons l ls ih =>
  intro i
  rw [kEs,List.mem_append,ih]
  constructor
  ·rintro (h|⟨j,m,h1,h2,h3⟩)
   ·unfold kE at h
    split at h
    ·cases h
    ·rename_i hc
     refine ⟨0,l,rfl,by simpa using hc,by simpa using h⟩
   ·exact ⟨j+1,m,by simpa using h1,by rw [← h2]; congr 1; omega,h3⟩
  ·rintro ⟨j,m,h1,h2,h3⟩
   cases j with
   | zero =>
    left
    simp only [List.getElem?_cons_zero,Option.some.injEq] at h1
    subst h1
    have h2':cut i=false:=h2
    rw [kE,if_neg (by rw [h2']; simp)]
    simpa using h3
   | succ j=>exact .inr ⟨j,m,by simpa using h1,by rw [← h2]; congr 1; omega,h3⟩
theorem kEs_sym (cut:Nat→Bool) (ls:List Lk):∀ e∈kEs cut 0 ls,(⟨e.b,e.a,e.w⟩:Ed)∈kEs cut 0 ls:=by
 intro e he
 rw [kEs_mem] at he ⊢
 obtain ⟨j,l,h1,h2,h3⟩:=he
 refine ⟨j,l,h1,h2,?_⟩
 rcases h3 with rfl|rfl
 ·exact .inr rfl
 ·exact .inl rfl
theorem reach_spec {t:Tpo} {s:Nat} {cut:Nat→Bool} (hv:∀ l∈t.links,endsP t l) (hs:s < t.nodes.toNat) {n:Nat} (hn:n < t.nodes.toNat):(reachL t s cut)[n]? = some true↔Cn (kEs cut 0 t.links) n s:=by
 have hv2:∀ l∈t.links,l.a.toNat < t.nodes.toNat∧l.b.toNat < t.nodes.toNat∧l.a.toNat≠l.b.toNat:=fun l hl=>by
  obtain ⟨⟨h1,h2⟩,⟨h3,h4⟩,h5⟩:=hv l hl
  omega
 have h0:RelS t.nodes.toNat ((List.replicate t.nodes.toNat false).set s true) (fun j=>decide (j=s)):=by
  refine ⟨by simp,fun n hn=>?_⟩
  by_cases h:n=s
  ·subst h; rw [List.getElem?_set_self (by simpa using hn)]; simp
  ·rw [List.getElem?_set_ne (fun e=>h e.symm),List.getElem?_replicate,if_pos hn]; simp [h]
 have h1:=(rIter_rel (cut:=cut) hv2 t.nodes.toNat _ _ h0).2 n hn
 rw [reachL,h1,Option.some.injEq]
 refine reach_iff (fun e he=>?_) s n
 rw [kEs_mem] at he
 obtain ⟨j,l,q1,q2,q3⟩:=he
 have:=hv2 l (List.mem_of_getElem? q1)
 rcases q3 with rfl|rfl
 ·exact this.1
 ·exact this.2.1
end Go.Proofs.Ytbibdnlbpjnieaa
namespace Go.Proofs.Ytbibdnlbpjnieaa
open Go Go.Abs
theorem goal_one {X:Net} (h:NetOk X) {q:Nat} (hq:X.U q):(goalM X q=2∧(goalM X (X.bk q)=1∨goalM X (X.bk q)=3))∨(goalM X (X.bk q)=2∧(goalM X q=1∨goalM X q=3)):=by
 obtain ⟨b1,b2,b3,b4,b5⟩:=h.bk q hq
 have hk:X.κ (X.fr q)≠X.κ (X.to q):=fun e=>h.ne q hq (h.inj _ _ (h.fr q hq) (h.to q hq) e)
 have hp:=h.per q hq
 have r1:X.F (X.fr q)≠X.fr q∧q=X.bst (X.fr q)→X.D (X.fr q)=X.D (X.to q)+X.per q:=fun c=>by
  have:=(h.bst _ (h.fr q hq) c.1).2.2.1
  rwa [← c.2] at this
 have r2:X.F (X.to q)≠X.to q∧X.bk q=X.bst (X.to q)→X.D (X.to q)=X.D (X.fr q)+X.per q:=fun c=>by
  have:=(h.bst _ (h.to q hq) c.1).2.2.1
  rwa [← c.2,b3,b5] at this
 unfold goalM
 rw [b2,b3,b4]
 by_cases c1:X.F (X.fr q)≠X.fr q∧q=X.bst (X.fr q)
 ·have e:=r1 c1
  have c2:¬ (X.F (X.to q)≠X.to q∧X.bk q=X.bst (X.to q)):=fun c=>by have:=r2 c; omega
  rw [if_pos c1,if_neg c2,if_pos (by unfold lx3; omega)]
  simp
 ·rw [if_neg c1]
  by_cases c2:X.F (X.to q)≠X.to q∧X.bk q=X.bst (X.to q)
  ·have e:=r2 c2
   rw [if_pos c2,if_pos (by unfold lx3; omega)]
   simp
  ·rw [if_neg c2]
   by_cases l:lx3 (X.D (X.fr q)) (X.κ (X.fr q)) (q:Nat) (X.D (X.to q)) (X.κ (X.to q)) (X.bk q:Nat)
   ·rw [if_pos l,if_neg (by unfold lx3 at *; omega)]
    simp
   ·rw [if_neg l,if_pos (by unfold lx3 at *; omega)]
    simp
theorem goal_root {X:Net} {q:Nat}:goalM X q=1↔X.F (X.fr q)≠X.fr q∧q=X.bst (X.fr q):=by
 unfold goalM
 by_cases c:X.F (X.fr q)≠X.fr q∧q=X.bst (X.fr q)
 ·rw [if_pos c]; exact ⟨fun _=>c,fun _=>rfl⟩
 ·rw [if_neg c]
  refine ⟨fun h=>?_,fun h=>absurd h c⟩
  split at h <;> omega
theorem asN_get {w:Nw} {r:Nat→Nat→Int} {n p:Nat}:∀ (l:List Nat) (s:List Int × Nat),s.1.length=2*w.t.links.length→p < 2*w.t.links.length →
  ((l.foldl (asQ w r n) s).1)[p]? = if p∈l then some (asV w r n p) else s.1[p]?:=by
 intro l
 induction l with
 | nil=>intro s _ _; simp
 | cons q l ih =>
  intro s hs hp
  rw [List.foldl_cons,ih (asQ w r n s q) (by simp [asQ,hs]) hp]
  by_cases hl:p∈l
  ·rw [if_pos hl,if_pos (List.mem_cons_of_mem _ hl)]
  ·rw [if_neg hl]
   by_cases e:p=q
   ·subst e
    rw [if_pos (List.mem_cons_self ..),asQ,List.getElem?_set_self (by omega)]
   ·rw [if_neg (by simp [e,hl]),asQ,List.getElem?_set_ne (fun h=>e h.symm)]
theorem asL_get {w:Nw} {r:Nat→Nat→Int} {n p:Nat} (hp:p < 2*w.t.links.length) (hf:frP w.t p=(n:Nat)) (hn:n < w.bs.length) (hs:stA w.t n=false):(asL w r)[p]? = some (asV w r n p):=by
 have key:∀ (l:List Nat) (s:List Int × Nat),s.1.length=2*w.t.links.length→((l.foldl (stS w.t (asN w r)) s).1)[p]? = if n∈l then some (asV w r n p) else s.1[p]?:=by
  intro l
  induction l with
  | nil=>intro s _; simp
  | cons m l ih =>
   intro s hl
   rw [List.foldl_cons,ih]
   ·by_cases h1:n∈l
    ·rw [if_pos h1,if_pos (List.mem_cons_of_mem _ h1)]
    ·rw [if_neg h1]
     unfold stS
     by_cases e:n=m
     ·subst e
      rw [if_pos (List.mem_cons_self ..),if_neg (by rw [hs]; simp),asN,asN_get _ _ hl hp,if_pos]
      simp only [portsL,List.mem_filter,List.mem_range,decide_eq_true_eq]
      exact ⟨hp,hf⟩
     ·rw [if_neg (show ¬ n∈m::l by simp [e,h1])]
      split
      ·rfl
      ·rw [asN,asN_get _ _ hl hp,if_neg]
       simp only [portsL,List.mem_filter,List.mem_range,decide_eq_true_eq]
       omega
   ·unfold stS
    split
    ·exact hl
    ·have:∀ (l:List Nat) (s:List Int × Nat),s.1.length=2*w.t.links.length→((l.foldl (asQ w r m) s).1).length=2*w.t.links.length:=by
      intro l
      induction l with
      | nil=>intro s h; exact h
      | cons q l ih=>intro s h; rw [List.foldl_cons]; exact ih _ (by simp [asQ,h])
     exact this _ _ hl
 rw [asL,key _ _ (by simp),if_pos (List.mem_range.2 hn)]
def gA (w:Nw) (p:Nat):Int:=(asL w (goalW w))[p]?.getD 0
theorem upA_iff {w:Nw} {i:Nat}:upA w i=true↔dnA w i=false∧stA w.t (lnk w.t i).a.toNat=false∧stA w.t (lnk w.t i).b.toNat=false:=by
 simp [upA]
theorem up_even {w:Nw} {i:Nat} (hi:i < w.t.links.length) (hu:upA w i=true):upP w (2*i)∧frP w.t (2*i)=(lnk w.t i).a∧toP w.t (2*i)=(lnk w.t i).b∧bk (2*i)=2*i+1∧frP w.t (2*i+1)=(lnk w.t i).b:=by
 have e1:2*i / 2=i:=by omega
 have e2:2*i % 2=0:=by omega
 have e3:(2*i+1) / 2=i:=by omega
 have e4:¬ (2*i+1) % 2=0:=by omega
 have a1:frP w.t (2*i)=(lnk w.t i).a:=by rw [frP,if_pos e2,e1]
 have a2:toP w.t (2*i)=(lnk w.t i).b:=by rw [toP,if_pos e2,e1]
 have a3:frP w.t (2*i+1)=(lnk w.t i).b:=by rw [frP,if_neg e4,e3]
 obtain ⟨h1,h2,h3⟩:=upA_iff.1 hu
 exact ⟨⟨⟨by omega,by rw [a1]; exact h2,by rw [a2]; exact h3⟩,by rw [e1]; exact h1⟩,a1,a2,by rw [bk,if_pos e2],a3⟩
theorem upP_link {w:Nw} {p:Nat} (h:upP w p):p / 2 < w.t.links.length∧upA w (p / 2)=true:=by
 obtain ⟨⟨h1,h2,h3⟩,h4⟩:=h
 refine ⟨by omega,upA_iff.2 ⟨h4,?_⟩⟩
 unfold frP at h2
 unfold toP at h3
 split at h2
 ·rename_i hc; rw [if_pos hc] at h3; exact ⟨h2,h3⟩
 ·rename_i hc; rw [if_neg hc] at h3; exact ⟨h3,h2⟩
section
variable {w:Nw} (h:VN w)
include h
theorem gA_up {p:Nat} (hp:upP w p):gA w p=goalM (netX w) p:=by
 obtain ⟨f1,f2⟩:=fr_N h hp.1
 have hbl:=h.bl
 obtain ⟨z1,z2,z3⟩:=okT_size h.t
 rw [gA,asL_get hp.1.1 f2 (by omega) hp.1.2.1,Option.getD_some,asV,if_neg (by rw [hp.2]; simp),if_neg (by rw [hp.1.2.2]; simp)]
 exact goal_eq h hp f2
theorem gA_one {i:Nat} (hi:i < w.t.links.length) (hu:upA w i=true):(gA w (2*i)=2∧(gA w (2*i+1)=1∨gA w (2*i+1)=3))∨(gA w (2*i+1)=2∧(gA w (2*i)=1∨gA w (2*i)=3)):=by
 obtain ⟨u1,_,_,u2,_⟩:=up_even hi hu
 have u3:=upP_bk u1
 have:=goal_one (netX_ok h) u1
 have e:(netX w).bk (2*i)=2*i+1:=u2
 rw [u2] at u3
 rw [e,← gA_up h u1,← gA_up h u3] at this
 exact this
theorem gA_root {p:Nat} (hp:upP w p) {n:Nat} (hf:(frP w.t p).toNat=n):gA w p=1↔rootF w n≠n∧p=(netX w).bst n:=by
 rw [gA_up h hp,goal_root]
 show rootF w (frP w.t p).toNat≠(frP w.t p).toNat∧p=(netX w).bst (frP w.t p).toNat↔_
 rw [hf]
omit h in
def kpA (w:Nw) (i:Nat):Bool:=upA w i && (decide (gA w (2*i)=1) || decide (gA w (2*i+1)=1))
omit h in
def incA (l:List Int) (n:Nat):List Int:=l.set n (l[n]?.getD 0+1)
omit h in
def shS (w:Nw) (s:List Int × List Nat) (i:Nat):List Int × List Nat :=
 if upA w i=false then (s.1,s.2++[i]) else if gA w (2*i)=1 then (incA s.1 (lnk w.t i).a.toNat,s.2) else if gA w (2*i+1)=1 then (incA s.1 (lnk w.t i).b.toNat,s.2) else (s.1,s.2++[i])
omit h in
def shL (w:Nw) (k:Nat):List Int × List Nat:=(List.range k).foldl (shS w) (List.replicate w.t.nodes.toNat 0,[])
omit h in
theorem shL_succ (k:Nat):shL w (k+1)=shS w (shL w k) k:=by rw [shL,List.range_succ,List.foldl_append]; rfl
omit h in
theorem shL_cut:∀ k,(shL w k).2=(List.range k).filter (fun i=>!kpA w i):=by
 intro k
 induction k with
 | zero=>rfl
 | succ k ih =>
  rw [shL_succ,List.range_succ,List.filter_append,← ih,shS]
  by_cases h1:upA w k=false
  ·rw [if_pos h1]; simp [kpA,h1]
  ·rw [if_neg h1]
   by_cases h2:gA w (2*k)=1
   ·rw [if_pos h2]; simp [kpA,h1,h2]
   ·rw [if_neg h2]
    by_cases h3:gA w (2*k+1)=1
    ·rw [if_pos h3]; simp [kpA,h1,h2,h3]
    ·rw [if_neg h3]; simp [kpA,h1,h2,h3]
omit h in
theorem shL_len:∀ k,(shL w k).1.length=w.t.nodes.toNat:=by
 intro k
 induction k with
 | zero=>simp [shL]
 | succ k ih =>
  rw [shL_succ,shS]
  split
  ·exact ih
  ·split
   ·simp [incA,ih]
   ·split
    ·simp [incA,ih]
    ·exact ih
omit h in
theorem inc_same {l:List Int} {n:Nat} {v:Int} (hv:l[n]? = some v):(incA l n)[n]? = some (v+1):=by
 have hn:n < l.length:=(List.getElem?_eq_some_iff.1 hv).1
 rw [incA,List.getElem?_set_self hn,hv]; rfl
omit h in
theorem inc_ne {l:List Int} {n m:Nat} (hm:m≠n):(incA l n)[m]? = l[m]?:=by rw [incA,List.getElem?_set_ne (fun e=>hm e.symm)]
theorem bst_up {n:Nat} (hn:n < w.t.nodes.toNat) (hr:rootF w n≠n):upP w ((netX w).bst n)∧(frP w.t ((netX w).bst n)).toNat=n:=⟨((netX_ok h).bst n hn hr).1,((netX_ok h).bst n hn hr).2.1⟩
theorem shL_roots:∀ k,k≤w.t.links.length→∀ n,n < w.t.nodes.toNat→(shL w k).1[n]? = some (if rootF w n≠n∧(netX w).bst n / 2 < k then 1 else 0):=by
 intro k
 induction k with
 | zero=>intro _ n hn; simp [shL,hn]
 | succ k ih =>
  intro hk n hn
  have ih:=ih (by omega)
  rw [shL_succ,shS]
  by_cases hu:upA w k=false
  ·rw [if_pos hu,ih n hn]
   by_cases hr:rootF w n=n
   ·simp [hr]
   ·have hb:=upP_link (bst_up h hn hr).1
    have:(netX w).bst n / 2≠k:=fun e=>by rw [e,hu] at hb; exact (by cases hb.2)
    have e2:(netX w).bst n / 2 < k+1↔(netX w).bst n / 2 < k:=by omega
    simp only [e2]
  ·have hu':upA w k=true:=by simpa using hu
   obtain ⟨u1,a1,a2,u2,a3⟩:=up_even (by omega:k < w.t.links.length) hu'
   have u3:=upP_bk u1
   rw [u2] at u3
   have hone:=gA_one h (by omega:k < w.t.links.length) hu'
   have q1:=gA_root h u1 (n:=(lnk w.t k).a.toNat) (by rw [a1])
   have q2:=gA_root h u3 (n:=(lnk w.t k).b.toNat) (by rw [a3])
   have hlt1:(lnk w.t k).a.toNat < w.t.nodes.toNat:=by have:=(fr_N h u1.1).1; rwa [a1] at this
   have hlt2:(lnk w.t k).b.toNat < w.t.nodes.toNat:=by have:=(fr_N h u3.1).1; rwa [a3] at this
   -- whose best port lies at this link
   have hm:rootF w n≠n→(netX w).bst n / 2=k→((netX w).bst n=2*k∧n=(lnk w.t k).a.toNat∧gA w (2*k)=1)∨((netX w).bst n=2*k+1∧n=(lnk w.t k).b.toNat∧gA w (2*k+1)=1):=by
    intro hr he
    have hb:=bst_up h hn hr
    have hc:(netX w).bst n=2*k∨(netX w).bst n=2*k+1:=by omega
    rcases hc with hc|hc
    ·have e:=hb.2
     rw [hc,a1] at e
     exact .inl ⟨hc,e.symm,q1.2 (by rw [e]; exact ⟨hr,hc.symm⟩)⟩
    ·have e:=hb.2
     rw [hc,a3] at e
     exact .inr ⟨hc,e.symm,q2.2 (by rw [e]; exact ⟨hr,hc.symm⟩)⟩
   rw [if_neg hu]
   by_cases g1:gA w (2*k)=1
   ·rw [if_pos g1]
    obtain ⟨r1,r2⟩:=q1.1 g1
    by_cases e:n=(lnk w.t k).a.toNat
    ·subst e
     rw [inc_same (ih _ hn),if_neg (by omega),if_pos ⟨r1,by omega⟩]; rfl
    ·rw [inc_ne e,ih n hn]
     have e2:(rootF w n≠n∧(netX w).bst n / 2 < k+1)↔(rootF w n≠n∧(netX w).bst n / 2 < k):=by
      refine ⟨fun c=>⟨c.1,?_⟩,fun c=>⟨c.1,by omega⟩⟩
      have:(netX w).bst n / 2≠k:=fun e3=>by
       rcases hm c.1 e3 with c2|c2 <;> omega
      omega
     simp only [e2]
   ·rw [if_neg g1]
    by_cases g2:gA w (2*k+1)=1
    ·rw [if_pos g2]
     obtain ⟨r1,r2⟩:=q2.1 g2
     by_cases e:n=(lnk w.t k).b.toNat
     ·subst e
      rw [inc_same (ih _ hn),if_neg (by omega),if_pos ⟨r1,by omega⟩]; rfl
     ·rw [inc_ne e,ih n hn]
      have e2:(rootF w n≠n∧(netX w).bst n / 2 < k+1)↔(rootF w n≠n∧(netX w).bst n / 2 < k):=by
       refine ⟨fun c=>⟨c.1,?_⟩,fun c=>⟨c.1,by omega⟩⟩
       have:(netX w).bst n / 2≠k:=fun e3=>by
        rcases hm c.1 e3 with c2|c2 <;> omega
       omega
      simp only [e2]
    ·rw [if_neg g2,ih n hn]
     have e2:(rootF w n≠n∧(netX w).bst n / 2 < k+1)↔(rootF w n≠n∧(netX w).bst n / 2 < k):=by
      refine ⟨fun c=>⟨c.1,?_⟩,fun c=>⟨c.1,by omega⟩⟩
      have:(netX w).bst n / 2≠k:=fun e3=>by
       rcases hm c.1 e3 with c2|c2 <;> omega
      omega
     simp only [e2]
theorem shL_root {n:Nat} (hn:n < w.t.nodes.toNat):(shL w w.t.links.length).1[n]? = some (if rootF w n=n then 0 else 1):=by
 rw [shL_roots h _ (Nat.le_refl _) n hn]
 by_cases hr:rootF w n=n
 ·rw [if_neg (fun c=>c.1 hr),if_pos hr]
 ·rw [if_pos ⟨hr,(upP_link (bst_up h hn hr).1).1⟩,if_neg hr]
theorem lnk_edge {p:Nat} (hp:upP w p) {cut:Nat→Bool} (hc:cut (p / 2)=false):(⟨(frP w.t p).toNat,(toP w.t p).toNat,0⟩:Ed)∈kEs cut 0 w.t.links:=by
 have hl:=(upP_link hp).1
 rw [kEs_mem]
 refine ⟨p / 2,lnk w.t (p / 2),by simp [lnk,hl],by simpa using hc,?_⟩
 unfold frP toP
 split
 ·exact .inl rfl
 ·exact .inr rfl
theorem to_root {C:Nat→Bool} (hC:∀ i,i < w.t.links.length→kpA w i=true→C i=false):∀ (d n:Nat),n < w.t.nodes.toNat→distF w n≤(d:Nat)→Cn (kEs C 0 w.t.links) n (rootF w n):=by
 have hX:=netX_ok h
 intro d
 induction d with
 | zero =>
  intro n hn hd
  by_cases hr:rootF w n=n
  ·rw [hr]; exact .refl _
  ·obtain ⟨b1,b2,b3,_⟩:=hX.bst n hn hr
   have h1:=hX.nn _ (hX.to _ b1)
   have h2:=hX.per _ b1
   change distF w n=_ at b3
   omega
 | succ d ih =>
  intro n hn hd
  by_cases hr:rootF w n=n
  ·rw [hr]; exact .refl _
  ·obtain ⟨b1,b2,b3,_⟩:=hX.bst n hn hr
   have h2:=hX.per _ b1
   have hs:=hX.same _ b1
   rw [b2] at hs
   change distF w n=distF w (toP w.t ((netX w).bst n)).toNat+_ at b3
   have:=ih _ (hX.to _ b1) (by show distF w (toP w.t ((netX w).bst n)).toNat≤_; omega)
   change rootF w n=rootF w (toP w.t ((netX w).bst n)).toNat at hs
   change Cn _ (toP w.t ((netX w).bst n)).toNat (rootF w (toP w.t ((netX w).bst n)).toNat) at this
   rw [← hs] at this
   have hl:=upP_link b1
   have hk:kpA w ((netX w).bst n / 2)=true:=by
    obtain ⟨u1,a1,a2,u2,a3⟩:=up_even hl.1 hl.2
    have hg:gA w ((netX w).bst n)=1:=(gA_root h b1 b2).2 ⟨hr,rfl⟩
    have hc:(netX w).bst n=2*((netX w).bst n / 2)∨(netX w).bst n=2*((netX w).bst n / 2)+1:=by omega
    rw [kpA,hl.2]
    rcases hc with hc|hc
    ·rw [← hc,hg]; rfl
    ·rw [← hc,hg]; simp
   have he:=lnk_edge h b1 (hC _ hl.1 hk)
   have hb2:(frP w.t ((netX w).bst n)).toNat=n:=b2
   rw [hb2] at he
   exact .step he this
theorem cn_iff {C:Nat→Bool} (h1:∀ i,i < w.t.links.length→C i=false→upA w i=true) (h2:∀ i,i < w.t.links.length→kpA w i=true→C i=false) {n m:Nat} (hn:n < w.t.nodes.toNat) (hm:m < w.t.nodes.toNat) :
  Cn (kEs C 0 w.t.links) m n↔rootF w m=rootF w n:=by
 have hX:=netX_ok h
 constructor
 ·refine Cn.const (fun e he=>?_)
  rw [kEs_mem] at he
  obtain ⟨j,l,q1,q2,q3⟩:=he
  have hj:j < w.t.links.length:=(List.getElem?_eq_some_iff.1 q1).1
  have hl:lnk w.t j=l:=by simp [lnk,q1]
  have hu:=h1 j hj (by simpa using q2)
  obtain ⟨u1,a1,a2,u2,a3⟩:=up_even hj hu
  have hs:=hX.same _ u1
  change rootF w (frP w.t (2*j)).toNat=rootF w (toP w.t (2*j)).toNat at hs
  rw [a1,a2,hl] at hs
  rcases q3 with rfl|rfl
  ·exact hs
  ·exact hs.symm
 ·intro e
  have q1:=to_root h h2 (distF w m).toNat m hm (by have:=hX.nn m hm; change 0≤distF w m at this; omega)
  have q2:=to_root h h2 (distF w n).toNat n hn (by have:=hX.nn n hn; change 0≤distF w n at this; omega)
  rw [e] at q1
  exact q1.trans (q2.symm (kEs_sym _ _))
theorem reach_eq {C:Nat→Bool} (h1:∀ i,i < w.t.links.length→C i=false→upA w i=true) (h2:∀ i,i < w.t.links.length→kpA w i=true→C i=false) {n:Nat} (hn:n < w.t.nodes.toNat) :
  reachL w.t n C=(List.range w.t.nodes.toNat).map (fun m=>decide (rootF w m=rootF w n)):=by
 have hl:=reachL_len w.t n C
 refine List.ext_getElem (by simp [hl]) (fun m hm1 hm2=>?_)
 have hm:m < w.t.nodes.toNat:=by omega
 have hs:=reach_spec (t:=w.t) (s:=n) (cut:=C) ((fun l hl=>sound_ends (by have:=h.t; simp only [okT,Bool.and_eq_true] at this; exact this.2.1) l hl)) hn hm
 rw [cn_iff h h1 h2 hn hm,List.getElem?_eq_getElem hm1,Option.some.injEq] at hs
 rw [List.getElem_map,List.getElem_range]
 by_cases hr:rootF w m=rootF w n
 ·rw [hs.2 hr]; exact (decide_eq_true hr).symm
 ·rw [decide_eq_false hr]
  cases hb:(reachL w.t n C)[m] with
  | false=>rfl
  | true=>exact absurd (hs.1 hb) hr
omit h in
def ptS (r:List Int) (b:List Bool) (s:Int × Int) (m:Nat):Int × Int:=if b[m]?.getD false=true then (s.1+1,s.2+r[m]?.getD 0) else s
omit h in
def ptL (r:List Int) (b:List Bool) (k:Nat):Int × Int:=(List.range k).foldl (ptS r b) (0,0)
omit h in
theorem ptL_succ (r:List Int) (b:List Bool) (k:Nat):ptL r b (k+1)=ptS r b (ptL r b k) k:=by rw [ptL,List.range_succ,List.foldl_append]; rfl
theorem root_root {n:Nat} (hn:n < w.t.nodes.toNat):rootF w n < w.t.nodes.toNat∧rootF w (rootF w n)=rootF w n:=by
 have hX:=netX_ok h
 have h1:=(hX.le n hn).2
 refine ⟨h1,?_⟩
 have h2:=to_root h (C:=fun i=>!kpA w i) (fun i _ hk=>by simp [hk]) (distF w n).toNat n hn (by have:=hX.nn n hn; change 0≤distF w n at this; omega)
 have h3:=(cn_iff h (C:=fun i=>!kpA w i) (fun i _ hk=>by simp [kpA] at hk; exact hk.1) (fun i _ hk=>by simp [hk]) (show (netX w).F n < _ from h1) hn).1 h2
 exact h3.symm
theorem pt_spec {n:Nat} (hn:n < w.t.nodes.toNat):∀ k,k≤w.t.nodes.toNat →
  let s:=ptL (shL w w.t.links.length).1 ((List.range w.t.nodes.toNat).map (fun m=>decide (rootF w m=rootF w n))) k
  s.2=s.1 - (if rootF w n < k then 1 else 0)∧0≤s.1∧s.1≤(k:Nat):=by
 intro k
 induction k with
 | zero=>intro _; simp [ptL]
 | succ k ih =>
  intro hk
  obtain ⟨i1,i2,i3⟩:=ih (by omega)
  obtain ⟨r1,r2⟩:=root_root h hn
  simp only
  rw [ptL_succ,ptS]
  have hb:((List.range w.t.nodes.toNat).map (fun m=>decide (rootF w m=rootF w n)))[k]?.getD false=decide (rootF w k=rootF w n):=by
   rw [List.getElem?_map,List.getElem?_range (by omega)]; rfl
  rw [hb,shL_root h (by omega:k < w.t.nodes.toNat)]
  by_cases hr:rootF w k=rootF w n
  ·rw [if_pos (decide_eq_true hr)]
   simp only [Option.getD_some]
   by_cases e:rootF w n=k
   ·rw [if_pos (by rw [hr]; exact e),i1,if_neg (by omega),if_pos (by omega)]
    omega
   ·rw [if_neg (by rw [hr]; exact e),i1]
    split <;> split <;> omega
  ·rw [if_neg (by rw [decide_eq_false hr]; simp)]
   have e:rootF w n≠k:=fun e=>hr (by rw [← e,r2])
   rw [i1]
   refine ⟨?_,by omega,by omega⟩
   split <;> split <;> omega
end
end Go.Proofs.Ytbibdnlbpjnieaa
namespace Go.Proofs.Ytbibdnlbpjnieaa
open Go Go.Abs
abbrev NI (n:Nat):T:=I (n:Nat)
def wC (cut:List Nat):List Bool:=cut.foldl (fun C i=>C.set i true) (List.replicate 24 false)
theorem wC_fold (i:Nat):∀ (cut:List Nat) (C:List Bool),(cut.foldl (fun C i=>C.set i true) C).length=C.length∧(i < C.length→(cut.foldl (fun C i=>C.set i true) C)[i]? = some (decide (i∈cut) || C[i]?.getD false)):=by
 intro cut
 induction cut with
 | nil=>intro C; exact ⟨rfl,fun h=>by simp [h]⟩
 | cons x cut ih =>
  intro C
  obtain ⟨h1,h2⟩:=ih (C.set x true)
  rw [List.foldl_cons]
  refine ⟨by rw [h1]; simp,fun h=>?_⟩
  rw [h2 (by simpa using h)]
  by_cases e:x=i
  ·subst e; rw [List.getElem?_set_self h]; simp
  ·rw [List.getElem?_set_ne e]
   have:decide (i∈x::cut)=decide (i∈cut):=by
    have e':i≠x:=fun h=>e h.symm
    simp [e']
   rw [this]
theorem wC_len (cut:List Nat):(wC cut).length=24:=by rw [wC,(wC_fold 0 cut _).1]; simp
theorem wC_fun {cut:List Nat} (h:∀ i∈cut,i < 24):(fun i=>(wC cut)[i]?.getD false)=fun i=>decide (i∈cut):=by
 funext i
 by_cases hi:i < 24
 ·rw [wC,(wC_fold i cut _).2 (by simpa using hi),List.getElem?_replicate,if_pos hi]; simp
 ·rw [List.getElem?_eq_none (by rw [wC_len]; omega)]
  exact (decide_eq_false (fun hm=>hi (h i hm))).symm
theorem foldC_ls2 {σ α:Type} {f:σ→α→σ}:∀ (l:List α) (i:Nat) (s:σ),foldC (ρ:=σ) (fun _ x s=>Ctl.go (f s x)) id i l s=l.foldl f s:=by
 intro l
 induction l with
 | nil=>intro i s; rfl
 | cons x l ih=>intro i s; rw [foldC_go (s':=f s x) rfl,ih,List.foldl_cons]
theorem spl_set {C:List Bool} {j:Nat} (hj:j < C.length):splice ((C.map B).map AV.t) j [.t (B true)]=((C.set j true).map B).map AV.t:=by
 rw [splice,List.set_eq_take_append_cons_drop,if_pos hj]
 simp
theorem Reach_ans (c1 c2 c3:Bool) (t:Tpo) (h:okT t=true) (s:Nat) (hs:s < t.nodes.toNat) (cut:List Nat) (hc:∀ i∈cut,i < t.links.length) (hl:cut.length≤1000) :
  ans Try.prog pol 19 [tpT c1 c2 t,I (s:Nat),.sl c3 1 (cut.map NI)]=some (.tup [.sl true 1 ((reachL t s (fun i=>decide (i∈cut))).map B),I 0]):=by
 obtain ⟨z1,z2,z3⟩:=okT_size h
 have k1:=check_ok (c1:=c1) (c2:=c2) h
 have k2:=reach_ans c1 c2 t (sound_ends (by have:=h; simp only [okT,Bool.and_eq_true] at this; exact this.2.1)) z3 (by omega) s (by omega) (wC cut) (wC_len cut)
 rw [wC_fun (fun i hi=>by have:=hc i hi; omega)] at k2
 have d0:decide (((s:Nat):Int) < 0)=false:=decide_eq_false (by omega)
 have d1:decide (t.nodes≤(s:Nat))=false:=decide_eq_false (by omega)
 generalize reachL t s (fun i=>decide (i∈cut))=rl at *
 refine ans_go 2000 1 il19_eq (Nat.le_of_ble_eq_true rfl) ?_
 (repeat' first|simp only [il19c,go_sem,k1,d0,d1]|(with_reducible first|apply wD|apply wT|(apply wM; intro)|(apply wL; intro))|((with_reducible first|refine wA ?_ ?_|refine wE ?_); rfl))
 refine loop_range cut NI (step:=fun i x C=>.go (C.set x true)) (fin:=id)
  (St:=fun i C e hh=>(e 1=.t (I (s:Nat))∧e 3=.t (.ip (tpC c1 c2 t))∧e 9=.ref 0 1 0 0∧e 25=.t (.sl c3 1 (cut.map NI))∧e 26=.t (I (cut.length:Nat))∧e 27=.t (I (i:Nat)))∧C.length=24∧∃ mr,mr≤1∧hh=[.row 24 [.t (.agg (C.map B))] mr])
  (Ex:=fun C x e hh=>(e 1=.t (I (s:Nat))∧e 3=.t (.ip (tpC c1 c2 t))∧e 9=.ref 0 1 0 0)∧x=.exit 0∧C.length=24∧∃ mr,mr≤1∧hh=[.row 24 [.t (.agg (C.map B))] mr]) (s:=List.replicate 24 false) (by omega) ?_ ?_ (by omega) ?_ ?_
 ·intro i x C e hh Y R hm hi hx hget hlt hw ⟨hs',hC,mr,hmr,hhe⟩ hk
  subst hhe
  simp only [ctlK_go] at hk
  have hx1:=hc x hm
  have hx24:x < 24:=by omega
  have hx25:x+1≤24:=by omega
  have d2:decide ((t.links.length:Int)≤(x:Nat))=false:=decide_eq_false (by omega)
  have d3:decide (((x:Nat):Int) < 0)=false:=decide_eq_false (by omega)
  have hsp:=spl_set (C:=C) (j:=x) (by omega)
  (repeat' first|simp only [il19l0_go,il19l0b,go_sem,hs',hget,hlt,hw,hx24,hx25,d2,d3,hsp,hmr,hC,Nat.mul_one]|(with_reducible first|apply wD|apply wT|(apply wM; intro)|(apply wL; intro))|((with_reducible first|refine wA ?_ ?_|refine wE ?_); rfl))
  all_goals (refine hk _ _ ⟨?_,by simp [hC],1,by omega,rfl⟩; simp only [go_sem,hs',hw])
 ·intro C e hh Y R hlt ⟨hs',hC,mr,hmr,hhe⟩ hk
  subst hhe
  (repeat' first|simp only [il19l0_go,il19l0b,go_sem,hs',hlt]|(with_reducible first|apply wD|apply wT|(apply wM; intro)|(apply wL; intro))|((with_reducible first|refine wA ?_ ?_|refine wE ?_); rfl))
  all_goals (refine hk _ _ _ ⟨?_,rfl,hC,mr,hmr,rfl⟩; simp only [go_sem,hs',id])
 ·refine ⟨?_,rfl,0,by omega,rfl⟩
  simp only [go_sem]
 ·intro x e hh ⟨hs',hx,hC,mr,hmr,hhe⟩
  rw [foldC_ls2] at hC hhe
  change (wC cut).length=24 at hC
  change hh=[.row 24 [.t (.agg ((wC cut).map B))] mr] at hhe
  subst hx hhe
  generalize wC cut=W at *
  have htk:List.take 24 ((W.map B).map AV.t)=(W.map B).map AV.t:=List.take_of_length_le (by simp [hC])
  (repeat' first|simp only [il19c,go_sem,hs',k2,hC,hmr,htk]|(with_reducible first|apply wD|apply wT|(apply wM; intro)|(apply wL; intro))|((with_reducible first|refine wA ?_ ?_|refine wE ?_); rfl))
theorem equalB_ans (c c':Bool) (a b:List (Bool)) (hl:a.length≤1000000):ans Try.prog pol 20 [.sl c 1 (a.map B),.sl c' 1 (b.map B)]=some (B (decide (a=b))):=by
 refine ans_go (a.length+1) 1 il20_eq (Nat.le_of_ble_eq_true rfl) ?_
 by_cases hlen:a.length=b.length
 ·have d0:decide ((a.length:Int)=(b.length:Int))=true:=decide_eq_true (by omega)
  (repeat' first|simp only [il20c,go_sem,d0]|(with_reducible first|apply wD|apply wT|(apply wM; intro)|(apply wL; intro))|((with_reducible first|refine wA ?_ ?_|refine wE ?_); rfl))
  refine loop_range a B (step:=fun i x (_:Unit)=>if b[i]? = some x then Ctl.go () else Ctl.out false) (fin:=fun _=>true) (St:=fun i s e h=>h=[]∧e 0=.t (.sl c 1 (a.map B))∧e 1=.t (.sl c' 1 (b.map B))∧e 12=.t (I (a.length:Nat))∧e 13=.t (I (i:Nat)))
   (Ex:=fun r x e h=>r=true∧x=.exit 0∨r=false∧x=.ret∧e 4=.t (B false)) (s:=()) (by omega) ?_ ?_ (by omega) ?_ ?_
  ·intro i x s e h Y R hm hi hx hget hlt hw ⟨h0,hs⟩ hk
   subst h0
   obtain ⟨y,hy⟩:∃ y,b[i]? = some y:=⟨b[i],by simp⟩
   have hgb:(b.map B)[i]? = some (B y):=by simp [hy]
   by_cases hxy:x=y
   ·have hd:(x != y)=false:=by simp [hxy]
    simp only [hy,hxy,if_true,ctlK_go] at hk
    (repeat' first|simp only [il20l0_go,il20l0b,go_sem,hs,hget,hgb,hlt,hw,hd]|(with_reducible first|apply wD|apply wT|(apply wM; intro)|(apply wL; intro))|((with_reducible first|refine wA ?_ ?_|refine wE ?_); rfl))
    all_goals (refine hk _ _ ?_; simp only [go_sem,hs,hw])
   ·have hd:(x != y)=true:=by simp [hxy]
    rw [if_neg (by rw [hy]; intro h; exact hxy (Option.some.inj h).symm),ctlK_out] at hk
    (repeat' first|simp only [il20l0_go,il20l0b,go_sem,hs,hget,hgb,hlt,hw,hd]|(with_reducible first|apply wD|apply wT|(apply wM; intro)|(apply wL; intro))|((with_reducible first|refine wA ?_ ?_|refine wE ?_); rfl))
    all_goals (refine hk _ _ _ (.inr ?_); simp only [go_sem])
  ·intro s e h Y R hlt ⟨h0,hs⟩ hk
   subst h0
   (repeat' first|simp only [il20l0_go,il20l0b,go_sem,hs,hlt]|(with_reducible first|apply wD|apply wT|(apply wM; intro)|(apply wL; intro))|((with_reducible first|refine wA ?_ ?_|refine wE ?_); rfl))
   all_goals (refine hk _ _ _ (.inl ?_); simp only [go_sem])
  ·simp only [go_sem]
  ·intro x e h hx
   rw [foldC_eq b a 0 b (by simp) hlen] at hx
   rcases hx with ⟨hx,rfl⟩|⟨hx,rfl,e4⟩
   ·(repeat' first|simp only [il20c,go_sem,hx]|(with_reducible first|apply wD|apply wT|(apply wM; intro)|(apply wL; intro))|((with_reducible first|refine wA ?_ ?_|refine wE ?_); rfl))
   ·(repeat' first|simp only [il20c,go_sem,e4,hx]|(with_reducible first|apply wD|apply wT|(apply wM; intro)|(apply wL; intro))|((with_reducible first|refine wA ?_ ?_|refine wE ?_); rfl))
 ·have d0:decide ((a.length:Int)=(b.length:Int))=false:=decide_eq_false (by omega)
  have d1:decide (a=b)=false:=decide_eq_false (fun h=>hlen (by rw [h]))
  (repeat' first|simp only [il20c,go_sem,d0,d1]|(with_reducible first|apply wD|apply wT|(apply wM; intro)|(apply wL; intro))|((with_reducible first|refine wA ?_ ?_|refine wE ?_); rfl))
end Go.Proofs.Ytbibdnlbpjnieaa
namespace Go.Proofs.Ytbibdnlbpjnieaa
open Go Go.Abs
abbrev U8 (n:Int):T:=.sc (.int .u8 n)
def u8P (l:List Int):Prop:=(∀ x∈l,0≤x∧x < 256)∧l.length < 9223372036854775808
def pkL (l:List Int) (i:Nat):Int:=l[i]?.getD 0
theorem pkL_bd {l:List Int} (h:u8P l) (i:Nat):0≤pkL l i∧pkL l i < 256:=by
 unfold pkL
 cases hq:l[i]? with
 | none=>simp
 | some x=>exact h.1 x (List.mem_of_getElem? hq)
theorem pick_ans (c:Bool) (l:List Int) (i:Nat) (h:u8P l):ans Try.prog pol 43 [.sl c 1 (l.map U8),I (i:Nat)]=some (I (pkL l i)):=by
 refine ans_go 1 1 il43_eq (Nat.le_of_ble_eq_true rfl) ?_
 by_cases hi:i < l.length
 ·have d1:decide ((i:Int) < (l.length:Nat))=true:=decide_eq_true (by omega)
  have hg:(l.map U8)[i]? = some (U8 (pkL l i)):=by simp [pkL,hi]
  have hb:=pkL_bd h i
  have v1:IntKind.i64.wrap (pkL l i)=pkL l i:=wrap_i64 (by omega) (by omega)
  (repeat' first|simp only [il43c,go_sem,d1,hg,v1]|(with_reducible first|apply wD|apply wT|(apply wM; intro)|(apply wL; intro))|((with_reducible first|refine wA ?_ ?_|refine wE ?_); rfl))
 ·have d1:decide ((i:Int) < (l.length:Nat))=false:=decide_eq_false (by omega)
  have hp:pkL l i=0:=by simp [pkL,hi]
  rw [hp]
  (repeat' first|simp only [il43c,go_sem,d1]|(with_reducible first|apply wD|apply wT|(apply wM; intro)|(apply wL; intro))|((with_reducible first|refine wA ?_ ?_|refine wE ?_); rfl))
theorem rnode_ans (c1 c2:Bool) (t:Tpo) (n:Int):ans Try.prog pol 92 [tpT c1 c2 t,I n]=some (B (decide (nodeP t n))):=by
 refine ans_go 1 1 il92_eq (Nat.le_of_ble_eq_true rfl) ?_
 by_cases h:0≤n
 ·have e0:decide (0≤n)=true:=decide_eq_true h
  have e1:decide (0≤n∧n < t.nodes)=decide (n < t.nodes):=by simp [h]
  rw [e1]
  (repeat' first|simp only [il92c,go_sem,e0]|(with_reducible first|apply wD|apply wT|(apply wM; intro)|(apply wL; intro))|((with_reducible first|refine wA ?_ ?_|refine wE ?_); rfl))
 ·have e0:decide (0≤n)=false:=decide_eq_false h
  rw [decide_eq_false (fun k=>h k.1)]
  (repeat' first|simp only [il92c,go_sem,e0]|(with_reducible first|apply wD|apply wT|(apply wM; intro)|(apply wL; intro))|((with_reducible first|refine wA ?_ ?_|refine wE ?_); rfl))
theorem joins_ans (l:Lk) (a b:Int):ans Try.prog pol 68 [lkT l,I a,I b]=some (B (decide (l.a=a∧l.b=b∨l.a=b∧l.b=a))):=by
 refine ans_go 1 1 il68_eq (Nat.le_of_ble_eq_true rfl) ?_
 by_cases h1:l.a=a
 ·have d1:=decide_eq_true h1
  by_cases h2:l.b=b
  ·have d2:=decide_eq_true h2
   rw [decide_eq_true (show l.a=a∧l.b=b∨l.a=b∧l.b=a from .inl ⟨h1,h2⟩)]
   (repeat' first|simp only [il68c,go_sem,d1,d2]|(with_reducible first|apply wD|apply wT|(apply wM; intro)|(apply wL; intro))|((with_reducible first|refine wA ?_ ?_|refine wE ?_); rfl))
  ·have d2:=decide_eq_false h2
   have e:decide (l.a=a∧l.b=b∨l.a=b∧l.b=a)=decide (l.a=b∧l.b=a):=by simp [h2]
   rw [e]
   by_cases h3:l.a=b
   ·have d3:=decide_eq_true h3
    have e:decide (l.a=b∧l.b=a)=decide (l.b=a):=by simp [h3]
    rw [e]
    (repeat' first|simp only [il68c,go_sem,d1,d2,d3]|(with_reducible first|apply wD|apply wT|(apply wM; intro)|(apply wL; intro))|((with_reducible first|refine wA ?_ ?_|refine wE ?_); rfl))
   ·have d3:=decide_eq_false h3
    rw [decide_eq_false (fun k=>h3 k.1)]
    (repeat' first|simp only [il68c,go_sem,d1,d2,d3]|(with_reducible first|apply wD|apply wT|(apply wM; intro)|(apply wL; intro))|((with_reducible first|refine wA ?_ ?_|refine wE ?_); rfl))
 ·have d1:=decide_eq_false h1
  have e:decide (l.a=a∧l.b=b∨l.a=b∧l.b=a)=decide (l.a=b∧l.b=a):=by simp [h1]
  rw [e]
  by_cases h3:l.a=b
  ·have d3:=decide_eq_true h3
   have e:decide (l.a=b∧l.b=a)=decide (l.b=a):=by simp [h3]
   rw [e]
   (repeat' first|simp only [il68c,go_sem,d1,d3]|(with_reducible first|apply wD|apply wT|(apply wM; intro)|(apply wL; intro))|((with_reducible first|refine wA ?_ ?_|refine wE ?_); rfl))
  ·have d3:=decide_eq_false h3
   rw [decide_eq_false (fun k=>h3 k.1)]
   (repeat' first|simp only [il68c,go_sem,d1,d3]|(with_reducible first|apply wD|apply wT|(apply wM; intro)|(apply wL; intro))|((with_reducible first|refine wA ?_ ?_|refine wE ?_); rfl))
def lkR (t:Tpo) (l:Lk):Bool:=lk1 t l && (lk2 t l && lk4 l)
theorem link_ans (c1 c2:Bool) (t:Tpo) (l:Lk) (hs:(t.station.length:Int)=t.nodes):ans Try.prog pol 67 [tpT c1 c2 t,lkT l]=some (B (lkR t l)):=by
 have k1:=rnode_ans c1 c2 t l.a
 have k2:=rnode_ans c1 c2 t l.b
 refine ans_go 1 1 il67_eq (Nat.le_of_ble_eq_true rfl) ?_
 unfold lkR
 by_cases h1:nodeP t l.a
 ·have e1:=decide_eq_true h1
  by_cases h2:nodeP t l.b
  ·have e2:=decide_eq_true h2
   by_cases h3:l.a=l.b
   ·have d3:=decide_eq_true h3
    have:lk1 t l=false:=by simp [lk1,h3]
    rw [this]
    (repeat' first|simp only [il67c,go_sem,k1,k2,e1,e2,d3]|(with_reducible first|apply wD|apply wT|(apply wM; intro)|(apply wL; intro))|((with_reducible first|refine wA ?_ ?_|refine wE ?_); rfl))
   ·have d3:=decide_eq_false h3
    have hl1:lk1 t l=true:=by unfold lk1; exact decide_eq_true ⟨h1,h2,h3⟩
    obtain ⟨g1,q1⟩:=st_get t hs h1
    obtain ⟨g2,q2⟩:=st_get t hs h2
    rw [hl1]
    unfold lk2
    generalize stA t l.a.toNat=sa at *
    generalize stA t l.b.toNat=sb at *
    have h4:lk4 l=(decide (1≤l.per) && (decide (l.per≤1000) && (decide (0≤l.delay) && decide (l.delay≤10000)))):=by
     unfold lk4
     rw [Bool.eq_iff_iff]
     simp only [decide_eq_true_eq,Bool.and_eq_true,and_assoc]
    rw [h4]
    cases sa with
    | true =>
     cases sb with
     | true=>(repeat' first|simp only [il67c,go_sem,k1,k2,e1,e2,d3,g1,g2,q1,q2]|(with_reducible first|apply wD|apply wT|(apply wM; intro)|(apply wL; intro))|((with_reducible first|refine wA ?_ ?_|refine wE ?_); rfl))
     | false =>
      cases p1:decide (1≤l.per) <;> cases p2:decide (l.per≤1000) <;> cases p3:decide (0≤l.delay) <;> cases p4:decide (l.delay≤10000) <;> (repeat' first|simp only [il67c,go_sem,k1,k2,e1,e2,d3,g1,g2,q1,q2,p1,p2,p3,p4]|(with_reducible first|apply wD|apply wT|(apply wM; intro)|(apply wL; intro))|((with_reducible first|refine wA ?_ ?_|refine wE ?_); rfl))
    | false =>
     cases p1:decide (1≤l.per) <;> cases p2:decide (l.per≤1000) <;> cases p3:decide (0≤l.delay) <;> cases p4:decide (l.delay≤10000) <;> (repeat' first|simp only [il67c,go_sem,k1,k2,e1,e2,d3,g1,g2,q1,q2,p1,p2,p3,p4]|(with_reducible first|apply wD|apply wT|(apply wM; intro)|(apply wL; intro))|((with_reducible first|refine wA ?_ ?_|refine wE ?_); rfl))
  ·have e2:=decide_eq_false h2
   have:lk1 t l=false:=by unfold lk1; exact decide_eq_false (fun h=>h2 h.2.1)
   rw [this]
   (repeat' first|simp only [il67c,go_sem,k1,k2,e1,e2]|(with_reducible first|apply wD|apply wT|(apply wM; intro)|(apply wL; intro))|((with_reducible first|refine wA ?_ ?_|refine wE ?_); rfl))
 ·have e1:=decide_eq_false h1
  have:lk1 t l=false:=by unfold lk1; exact decide_eq_false (fun h=>h1 h.1)
  rw [this]
  (repeat' first|simp only [il67c,go_sem,k1,k2,e1]|(with_reducible first|apply wD|apply wT|(apply wM; intro)|(apply wL; intro))|((with_reducible first|refine wA ?_ ?_|refine wE ?_); rfl))
end Go.Proofs.Ytbibdnlbpjnieaa
namespace Go.Proofs.Ytbibdnlbpjnieaa
open Go Go.Abs
structure Dr where
 br:Int
 st:Int
 chords:List Int
 homes:List Int
 pers:List Int
 delays:List Int
abbrev drC (c1 c2 c3 c4:Bool) (d:Dr):List T:=[U8 d.br,U8 d.st,.sl c1 1 (d.chords.map U8),.sl c2 1 (d.homes.map U8),.sl c3 1 (d.pers.map U8),.sl c4 1 (d.delays.map U8)]
abbrev drT (c1 c2 c3 c4:Bool) (d:Dr):T:=.agg (drC c1 c2 c3 c4 d)
structure drP (d:Dr):Prop where
 br:0≤d.br∧d.br < 256
 st:0≤d.st∧d.st < 256
 chords:u8P d.chords
 homes:u8P d.homes
 pers:u8P d.pers
 delays:u8P d.delays
def mkK (d:Dr) (n:Nat) (a b:Int):Lk:=⟨a,b,1+pkL d.pers n % 20,pkL d.delays n % 50⟩
def jnL (L:List Lk) (a b:Int):Bool:=L.any (fun l=>decide (l.a=a∧l.b=b∨l.a=b∧l.b=a))
def wth (d:Dr) (N:Int) (st:List Bool) (L:List Lk) (a b:Int):List Lk :=
 if L.length=24∨lkR ⟨N,st,L⟩ (mkK d L.length a b)=false then L else if jnL L a b=true then L else L++[mkK d L.length a b]
theorem wth_24 {d:Dr} {N:Int} {st:List Bool} {L:List Lk} {a b:Int} (h:L.length≤24):(wth d N st L a b).length≤24:=by
 unfold wth
 split
 ·exact h
 ·rename_i h1
  split
  ·exact h
  ·have:L.length≠24:=fun h=>h1 (.inl h)
   simp; omega
abbrev zT3:T:=.agg [I 0,.sc (.slice none 0 0),.sc (.slice none 0 0)]
abbrev tpA (N:Int) (s q:Nat):List AV:=[.t (I N),.ms 1 s 0 s 1 false,.ms 2 q 0 q 4 false]
def hpT (N:Int) (st:List Bool) (L:List Lk) (s q mr:Nat):Heap:=[.row 3 [.t zT3] 0,.row 1 ((st.map B).map .t) 0,.row 4 ((L.map encK).map .t) 0,.row 3 [.agg (tpA N s q)] mr]
def zzT (N:Int) (s q5 m5 q8:Nat) (l:Lk):Heap:=[.row 3 [.agg (tpA N s q5)] m5,.row 3 [.agg (tpA N s q8)] 1,.row 4 [.t (lkT l)] 1]
theorem frz_rowG' {α:Type} {k:Nat} {enc:α→T} {l:List α} {h:Heap} {p:Nat→Bool}:frzObj h p (rowG k enc l)=some (rowG k enc l):=by
 rw [rowG_eq]
 simp only [frzObj,av_map,if_true]
theorem with_inl (c1 c2 c3 c4:Bool) (d:Dr) (hd:drP d) (N:Int) (st:List Bool) (L:List Lk) (hst:(st.length:Int)=N) (hL:L.length≤24) (hN:N≤12) (mr:Nat) (hmr:mr≤1) (a b:Int) (dd nn:Nat) (hn:100 < nn) (Q:AV→Heap→Prop)
  (hQ:∀ q5 m5 q8 l,m5≤1→Q (.agg (tpA N st.length (wth d N st L a b).length)) (hpT N st (wth d N st L a b) st.length L.length mr++zzT N st.length q5 m5 q8 l)) :
  oB (inl Try.prog pol (ans Try.prog pol) nn (dd+1) (.fn 42) [.t (drT c1 c2 c3 c4 d),.agg (tpA N st.length L.length),.t (I a),.t (I b)] (hpT N st L st.length L.length mr)) Q:=by
 have k1:=pick_ans c3 d.pers L.length hd.pers
 have k2:=pick_ans c4 d.delays L.length hd.delays
 have b1:=pkL_bd hd.pers L.length
 have b2:=pkL_bd hd.delays L.length
 have t1:(pkL d.pers L.length).tmod 20=pkL d.pers L.length % 20:=Int.tmod_eq_emod_of_nonneg b1.1
 have t2:(pkL d.delays L.length).tmod 50=pkL d.delays L.length % 50:=Int.tmod_eq_emod_of_nonneg b2.1
 have v1:IntKind.i64.wrap (pkL d.pers L.length % 20)=pkL d.pers L.length % 20:=wrap_i64 (by omega) (by omega)
 have v2:IntKind.i64.wrap (pkL d.delays L.length % 50)=pkL d.delays L.length % 50:=wrap_i64 (by omega) (by omega)
 have v3:IntKind.i64.wrap (1+pkL d.pers L.length % 20)=1+pkL d.pers L.length % 20:=wrap_i64 (by omega) (by omega)
 have k3:=link_ans false false ⟨N,st,L⟩ (mkK d L.length a b) hst
 simp only [mkK] at k3
 have hl1:((st.map B).map AV.t).length=st.length:=by simp
 have hl2:((L.map encK).map AV.t).length=L.length:=by simp
 have hw:wth d N st L a b=if L.length=24∨lkR ⟨N,st,L⟩ (mkK d L.length a b)=false then L else if jnL L a b=true then L else L++[mkK d L.length a b]:=rfl
 have hroom:(L.length+1)*32≤roomB:=ap_room (by omega) (by omega)
 by_cases h24:L.length=24
 ·have d1:decide ((L.length:Int)=24)=true:=decide_eq_true (by omega)
  rw [hw,if_pos (.inl h24)] at hQ
  simp only [hpT,zzT] at hQ ⊢
  with_reducible refine oB_inl il42_eq ?_ ?_
  ·exact Nat.le_of_ble_eq_true rfl
  (repeat' first|simp only [il42c,go_sem,k1,k2,t1,t2,v1,v2,v3,d1,hmr,hl1,hl2]|(with_reducible first|apply wD|apply wT|(apply wM; intro)|(apply wL; intro))|((with_reducible first|refine wA ?_ ?_|refine wE ?_); rfl))
  all_goals exact hQ _ _ _ (mkK d L.length a b) (by omega)
 have d1:decide ((L.length:Int)=24)=false:=decide_eq_false (by omega)
 cases hlr:lkR ⟨N,st,L⟩ (mkK d L.length a b) with
 | false =>
  rw [hw,if_pos (.inr hlr)] at hQ
  simp only [mkK] at hlr
  rw [hlr] at k3
  simp only [hpT,zzT] at hQ ⊢
  with_reducible refine oB_inl il42_eq ?_ ?_
  ·exact Nat.le_of_ble_eq_true rfl
  (repeat' first|simp only [il42c,go_sem,k1,k2,t1,t2,v1,v2,v3,k3,d1,hmr,hl1,hl2]|(with_reducible first|apply wD|apply wT|(apply wM; intro)|(apply wL; intro))|((with_reducible first|refine wA ?_ ?_|refine wE ?_); rfl))
  all_goals exact hQ _ _ _ (mkK d L.length a b) (by omega)
 | true =>
  rw [hw,if_neg (by rintro (h|h); exact h24 h; rw [hlr] at h; cases h)] at hQ
  have hlr':=hlr
  simp only [mkK] at hlr'
  rw [hlr'] at k3
  have hpush:((L.map encK).map AV.t)++[.t (lkT (mkK d L.length a b))]=(((L++[mkK d L.length a b]).map encK).map AV.t):=by simp [encK]
  simp only [mkK] at hpush
  simp only [hpT,zzT] at hQ ⊢
  with_reducible refine oB_inl il42_eq ?_ ?_
  ·exact Nat.le_of_ble_eq_true rfl
  (repeat' first|simp only [il42c,go_sem,k1,k2,t1,t2,v1,v2,v3,k3,d1,hmr,hl1,hl2]|(with_reducible first|apply wD|apply wT|(apply wM; intro)|(apply wL; intro))|((with_reducible first|refine wA ?_ ?_|refine wE ?_); rfl))
  refine loop_range L encK (step:=fun i x (_:Unit)=>if (decide (x.a=a∧x.b=b∨x.a=b∧x.b=a))=true then Ctl.out true else Ctl.go ()) (fin:=fun _=>false)
   (St:=fun i _ e h=>(e 2=.t (I a)∧e 3=.t (I b)∧e 5=.ref 4 1 0 0∧e 8=.ref 5 1 0 0∧e 9=.t (I (L.length:Nat))∧e 10=.ref 6 1 0 0∧e 11=.t (I (i:Nat)))∧h=[.row 3 [.t zT3] 0,.row 1 ((st.map B).map .t) 0,.row 4 ((L.map encK).map .t) 0,.row 3 [.agg (tpA N st.length L.length)] mr,.row 3 [.agg (tpA N st.length L.length)] 0,.row 3 [.t zT3] 0,.row 4 [.t (lkT (mkK d L.length a b))] 1])
   (Ex:=fun r x e h=>(e 8=.ref 5 1 0 0∧(r=false→e 5=.ref 4 1 0 0∧e 10=.ref 6 1 0 0))∧(r=true∧x=.ret∧h=[.row 3 [.t zT3] 0,.row 1 ((st.map B).map .t) 0,.row 4 ((L.map encK).map .t) 0,.row 3 [.agg (tpA N st.length L.length)] mr,.row 3 [.agg (tpA N st.length L.length)] 0,.row 3 [.agg (tpA N st.length L.length)] 1,.row 4 [.t (lkT (mkK d L.length a b))] 1]∨r=false∧x=.exit 0∧h=[.row 3 [.t zT3] 0,.row 1 ((st.map B).map .t) 0,.row 4 ((L.map encK).map .t) 0,.row 3 [.agg (tpA N st.length L.length)] mr,.row 3 [.agg (tpA N st.length L.length)] 0,.row 3 [.t zT3] 0,.row 4 [.t (lkT (mkK d L.length a b))] 1])) (s:=()) (by omega) ?_ ?_ (by omega) ?_ ?_
  ·intro i x _ e h Y R' hm hi hx hget hlt hw' ⟨hs,hh⟩ hk
   subst hh
   have k4:=joins_ans x a b
   have gx:((L.map encK).map AV.t)[i]? = some (.t (lkT x)):=map_get (enc:=encK) hx
   by_cases hj:(x.a=a∧x.b=b∨x.a=b∧x.b=a)
   ·have dj:=decide_eq_true hj
    rw [dj] at k4
    rw [if_pos dj,ctlK_out] at hk
    simp only [mkK] at hk ⊢
    (repeat' first|simp only [il42l0_go,il42l0b,go_sem,hs,hlt,gx,hl2,k4,hi,hmr]|(with_reducible first|apply wD|apply wT|(apply wM; intro)|(apply wL; intro))|((with_reducible first|refine wA ?_ ?_|refine wE ?_); rfl))
    all_goals (refine hk _ _ _ ⟨⟨?_,by simp⟩,.inl ⟨by simp,rfl,rfl⟩⟩; simp only [go_sem,hs])
   ·have dj:=decide_eq_false hj
    rw [dj] at k4
    rw [if_neg (by rw [dj]; simp),ctlK_go] at hk
    simp only [mkK] at hk ⊢
    (repeat' first|simp only [il42l0_go,il42l0b,go_sem,hs,hlt,hw',gx,hl2,k4,hi,hmr]|(with_reducible first|apply wD|apply wT|(apply wM; intro)|(apply wL; intro))|((with_reducible first|refine wA ?_ ?_|refine wE ?_); rfl))
    all_goals (refine hk _ _ ⟨?_,rfl⟩; simp only [go_sem,hs,hw'])
  ·intro _ e h Y R' hlt ⟨hs,hh⟩ hk
   subst hh
   simp only [mkK] at hk ⊢
   (repeat' first|simp only [il42l0_go,il42l0b,go_sem,hs,hlt]|(with_reducible first|apply wD|apply wT|(apply wM; intro)|(apply wL; intro))|((with_reducible first|refine wA ?_ ?_|refine wE ?_); rfl))
   all_goals (refine hk _ _ _ ⟨⟨?_,fun _=>?_⟩,.inr ⟨by simp,rfl,rfl⟩⟩ <;> simp only [go_sem,hs,and_self])
  ·refine ⟨?_,rfl⟩
   simp only [go_sem]
  ·intro x e h ⟨⟨h8,h5⟩,hx⟩
   have hfold:∀ (l:List Lk) (k:Nat),foldC (fun i (x:Lk) (_:Unit)=>if (decide (x.a=a∧x.b=b∨x.a=b∧x.b=a))=true then Ctl.out true else Ctl.go ()) (fun _=>false) k l ()=jnL l a b:=by
    intro l
    induction l with
    | nil=>intro k; rfl
    | cons y l ih =>
     intro k
     by_cases hy:(decide (y.a=a∧y.b=b∨y.a=b∧y.b=a))=true
     ·rw [foldC_out (r:=true) (if_pos hy)]
      simp only [jnL,List.any_cons,hy,Bool.true_or]
     ·rw [foldC_go (s':=()) (if_neg hy),ih]
      have hy':(decide (y.a=a∧y.b=b∨y.a=b∧y.b=a))=false:=by simpa using hy
      simp only [jnL,List.any_cons,hy',Bool.false_or]
   rw [hfold] at hx h5
   rcases hx with ⟨hb,rfl,rfl⟩|⟨hb,rfl,rfl⟩
   ·rw [hb,if_pos rfl] at hQ
    (repeat' first|simp only [il42c,go_sem,h8]|(with_reducible first|apply wD|apply wT|(apply wM; intro)|(apply wL; intro))|((with_reducible first|refine wA ?_ ?_|refine wE ?_); rfl))
    all_goals exact hQ _ _ _ (mkK d L.length a b) (by omega)
   ·rw [hb,if_neg (by simp)] at hQ
    obtain ⟨h5,h10⟩:=h5 hb
    simp only [List.length_append,List.length_cons,List.length_nil,mkK] at hQ
    rw [← hpush] at hQ
    (repeat' first|simp only [il42c,go_sem,h8,h5,h10,hl2,hroom,hmr]|(with_reducible first|apply wD|apply wT|(apply wM; intro)|(apply wL; intro))|((with_reducible first|refine wA ?_ ?_|refine wE ?_); rfl))
    all_goals exact hQ _ _ _ (mkK d L.length a b) (by omega)
end Go.Proofs.Ytbibdnlbpjnieaa
