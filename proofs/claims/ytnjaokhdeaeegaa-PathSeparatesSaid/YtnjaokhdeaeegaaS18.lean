/- Part 18 of the proof of PathSeparates. -/
import Derived.Test.YtnjaokhdeaeegaaS17
set_option linter.all false
set_option maxRecDepth 100000
set_option maxHeartbeats 4000000
namespace Go.Proofs.Ytnjaokhdeaeegaa
open Go Go.Abs
def SlQ (X:T) (N:List Int):Prop:=(∃ c,X=.sl c 1 (N.map I))∨(X=nilT∧N=[])
theorem qic {c:Bool} {N:List Int}:SlQ (.sl c 1 (N.map I)) N:=.inl ⟨c,rfl⟩
theorem q41:SlQ nilT []:=.inr ⟨rfl,rfl⟩
section
variable {X:T} {N:List Int} (h:SlQ X N)
include h
theorem SlQ.len:iLen (.t X)=some (.t (I (N.length:Nat))):=by
 rcases h with ⟨c,rfl⟩|⟨rfl,rfl⟩
 ·rw [q5H,List.length_map]
 ·rfl
theorem SlQ.get {i:Nat} {n:Int} (hn:N[i]? = some n):iIdxS 1 (.t X) i=some (.t (.ip [I n])):=by
 rcases h with ⟨c,rfl⟩|⟨rfl,rfl⟩
 ·rw [ix_sl,List.getElem?_map,hn]; rfl
 ·simp at hn
theorem SlQ.sto:storable (.t X)=true:=by
 rcases h with ⟨c,rfl⟩|⟨rfl,rfl⟩ <;> rfl
end
def inR (k:Int) (N:List Int):Bool:=N.all fun n=>decide (0≤n∧n < k)
def avC (k:Int) (_:Nat) (n:Int) (V:List Nat):Ctl (List Nat) (Option (List Nat)):=if n < 0∨k≤n then .out none else .go (V++[n.toNat])
theorem q75 (k:Int):∀ (N:List Int) (i:Nat) (V:List Nat),foldC (avC k) some i N V=if inR k N=true then some (V++N.map Int.toNat) else none:=by
 intro N
 induction N with
 | nil=>intro i V; simp [foldC,inR]
 | cons n N ih =>
  intro i V
  by_cases hn:n < 0∨k≤n
  ·rw [q0p (r:=none) (by rw [avC,if_pos hn])]
   have:inR k (n::N)=false:=by
    simp only [inR,List.all_cons,Bool.and_eq_false_iff,decide_eq_false_iff_not]
    left; omega
   rw [this]; rfl
  ·rw [q0g (s':=V++[n.toNat]) (by rw [avC,if_neg hn]),ih]
   have:inR k (n::N)=inR k N:=by
    have:decide (0≤n∧n < k)=true:=decide_eq_true (by omega)
    simp only [inR,List.all_cons,this,Bool.true_and]
   rw [this]; simp
def lsA (t:Tpo) (a b:Nat) (N L:List Int) (most:Int):T :=
 if inR t.nodes N=true∧inR (t.links.length:Nat) L=true∧1≤most∧most≤8 then
  (if dp (grT t) (avA t a (N.map Int.toNat) (L.map Int.toNat)) most.toNat b=[] then .tup [nilT,I 4] else .tup [rgT (dp (grT t) (avA t a (N.map Int.toNat) (L.map Int.toNat)) most.toNat b),I 0])
 else .tup [nilT,I 2]
theorem q76 {c1 c2:Bool} {t:Tpo} {F G:List Int}:(List.drop 2 ((srC c1 c2 t F G).map AV.t)).head? = some (.t (.sl c2 4 (t.links.map encK))):=rfl
section
variable (c1 c2:Bool) (t:Tpo) (h:okT t=true)
include h
theorem q77 (a b:Nat) (he:endP t (a:Nat) (b:Nat)) {X1 X2:T} {N L:List Int} (hX1:SlQ X1 N) (hX2:SlQ X2 L) (hN:N.length≤1000) (hL:L.length≤1000) (most:Int):ans Try.prog pol 12 [tpT c1 c2 t,I (a:Nat),I (b:Nat),.agg [X1,X2],I most]=some (lsA t a b N L most):=by
 have o1:=hX1.sto
 have o2:=hX2.sto
 have x1:=hX1.len
 have x2:=hX2.len
 obtain ⟨z1,z2,z3⟩:=q0h h
 have hab:=he
 obtain ⟨⟨a1,a2⟩,⟨b1,b2⟩,hne⟩:=hab
 have k1:=q3K c1 c2 t a b h he
 have hl:=q0D (c1:=c1) (c2:=c2) (t:=t) (q0a t (frP t)) (q0a t (toP t))
 have ht:=q1G hl
 have htk:List.take 99 (srS c1 c2 t)=srS c1 c2 t:=List.take_of_length_le (by rw [hl]; exact Nat.le_refl _)
 have hs:=q0y (c1:=c1) (c2:=c2) (t:=t) (F:=endsL t (frP t)) (G:=endsL t (toP t))
 have hdr:List.drop 99 (zS99.map AV.t)=[]:=rfl
 have zB:zB12=(bsK 12 []).map B:=rfl
 have zB2:zB24=(bsK 24 []).map B:=rfl
 have sM:=fun k V=>q21 (bsK k V)
 have lM:=fun k V=>q0S k V
 have tk:=fun (k:Nat) (V:List Nat) (n:Nat) (hn:n < k)=>@tkdr (((bsK k V).map B).map AV.t) n (.t (B true)) (by simp [q0S]; omega)
 have hset:=fun (k:Nat) (V:List Nat) (n:Nat)=>map_set (enc:=B) (l:=bsK k V) (i:=n) (x:=true)
 have hmt:=fun (k:Nat) (V:List Nat) (n:Nat)=>@q72 k V n
 have kL:=fun V W (hm:most≤8) (h1:1≤most)=>qib c1 c2 t h a b (by omega) (by omega) V W most.toNat (by omega)
 obtain ⟨nn,hnn⟩:∃ nn,2000 < nn:=⟨2001,by omega⟩
 refine q02 nn 1 il12_eq (Nat.le_of_ble_eq_true rfl) ?_
 (repeat' first|simp only [il12c,go_sem,k1,q0s,q0v,hdr,hl,ht,hs,q0N,zB,sM,lM,List.length_map,o1,o2,x1]|with_reducible refine wX fun _=>?_|((with_reducible refine wY ?_ ?_); rfl)|fail)
 refine q0k N I (step:=avC t.nodes) (fin:=some)
  (St:=fun i V e h=>(e 1=.t (I (a:Nat))∧e 2=.t (I (b:Nat))∧e 4=.t (I most)∧e 8=.t (.ip [X1,X2])∧e 12=.ref 0 1 0 0∧e 14=.ref 1 1 0 0∧e 32=.t X1∧e 33=.t (I (N.length:Nat))∧e 34=.t (I (i:Nat)))∧∃ m,m≤1∧h=[.row 99 [.t (.agg (srS c1 c2 t))] 1,.row 12 [.t (.agg ((bsK 12 V).map B))] m])
  (Ex:=fun s x e h=>(x=.ret∧s=none∧e 10=.t nilT∧e 11=.t (I 2))∨(x=.exit 0∧∃ V m,s=some V∧m≤1∧h=[.row 99 [.t (.agg (srS c1 c2 t))] 1,.row 12 [.t (.agg ((bsK 12 V).map B))] m]∧(e 1=.t (I (a:Nat))∧e 2=.t (I (b:Nat))∧e 4=.t (I most)∧e 8=.t (.ip [X1,X2])∧e 12=.ref 0 1 0 0∧e 14=.ref 1 1 0 0))) (s:=[]) (by omega) ?_ ?_ (by omega) ?_ ?_
 ·intro i n V e h' Y R hm hi hx hget hlt hw ⟨hs',m,hm',hh⟩ hk
  subst hh
  have hgx:=hX1.get hx
  unfold avC at hk
  by_cases hn:n < 0∨t.nodes≤n
  ·rw [if_pos hn,q09] at hk
   by_cases q1:n < 0
   ·have e1:=decide_eq_true q1
    (repeat' first|simp only [il12l0_go,il12l0b,go_sem,hs',hlt,hgx,hi,e1,List.length_map]|with_reducible refine wX fun _=>?_|((with_reducible refine wY ?_ ?_); rfl)|fail)
    all_goals (refine hk _ _ _ (.inl ⟨rfl,rfl,?_,?_⟩) <;> simp only [go_sem])
   ·have e1:=decide_eq_false q1
    have e2:decide (t.nodes≤n)=true:=decide_eq_true (by omega)
    (repeat' first|simp only [il12l0_go,il12l0b,go_sem,hs',hlt,hgx,hi,e1,e2,List.length_map,q0N,q3G]|with_reducible refine wX fun _=>?_|((with_reducible refine wY ?_ ?_); rfl)|fail)
    all_goals (refine hk _ _ _ (.inl ⟨rfl,rfl,?_,?_⟩) <;> simp only [go_sem])
  ·rw [if_neg hn,q06] at hk
   have e1:decide (n < 0)=false:=decide_eq_false (by omega)
   have e2:decide (t.nodes≤n)=false:=decide_eq_false (by omega)
   obtain ⟨x,rfl⟩:∃ x:Nat,n=x:=⟨n.toNat,by omega⟩
   have x12:x < 12:=by omega
   have xb:x+1≤12:=by omega
   have tkx:=tk 12 V x x12
   rw [Int.toNat_natCast] at hk
   (repeat' first|simp only [il12l0_go,il12l0b,go_sem,hs',hlt,hw,hgx,hi,e1,e2,List.length_map,q0N,q3G,x12,xb,hm',tkx,hset,hmt,lM,Nat.mul_one]|with_reducible refine wX fun _=>?_|((with_reducible refine wY ?_ ?_); rfl)|fail)
   all_goals (refine hk _ _ ⟨?_,1,Nat.le_refl 1,rfl⟩; simp only [go_sem,hs',hw])
 ·intro V e h' Y R hlt ⟨hs',m,hm',hh⟩ hk
  subst hh
  (repeat' first|simp only [il12l0_go,il12l0b,go_sem,hs',hlt]|with_reducible refine wX fun _=>?_|((with_reducible refine wY ?_ ?_); rfl)|fail)
  all_goals (refine hk _ _ _ (.inr ⟨rfl,V,m,rfl,hm',rfl,?_⟩); simp only [go_sem,hs'])
 ·refine ⟨?_,0,Nat.zero_le _,rfl⟩
  simp only [go_sem,List.length_map]
 ·intro x e h' hx
  rw [q75,List.nil_append] at hx
  rcases hx with ⟨rfl,hx,h10,h11⟩|⟨rfl,V,m,hx,hm',hh,he1⟩
  ·cases hi:inR t.nodes N with
   | true=>rw [hi,if_pos rfl] at hx; cases hx
   | false =>
    have hA:lsA t a b N L most=.tup [nilT,I 2]:=if_neg (fun k=>by rw [hi] at k; cases k.1)
    rw [hA]
    (repeat' first|simp only [il12c,go_sem,h10,h11]|with_reducible refine wX fun _=>?_|((with_reducible refine wY ?_ ?_); rfl)|fail)
  ·cases hi:inR t.nodes N with
   | false=>rw [hi,if_neg (by simp)] at hx; cases hx
   | true =>
    rw [hi,if_pos rfl,Option.some.injEq] at hx
    subst hx
    subst hh
    (repeat' first|simp only [il12c,go_sem,he1,zB2,sM,lM,List.length_map,x2]|with_reducible refine wX fun _=>?_|((with_reducible refine wY ?_ ?_); rfl)|fail)
    obtain ⟨V,hV⟩:∃ V,V=N.map Int.toNat:=⟨_,rfl⟩
    rw [← hV]
    refine q0k L I (step:=avC (t.links.length:Nat)) (fin:=some)
     (St:=fun i W e h=>(e 1=.t (I (a:Nat))∧e 2=.t (I (b:Nat))∧e 4=.t (I most)∧e 12=.ref 0 1 0 0∧e 14=.ref 1 1 0 0∧e 17=.ref 2 1 0 0∧e 51=.t X2∧e 52=.t (I (L.length:Nat))∧e 53=.t (I (i:Nat)))∧∃ m2,m2≤1∧h=[.row 99 [.t (.agg (srS c1 c2 t))] 1,.row 12 [.t (.agg ((bsK 12 V).map B))] m,.row 24 [.t (.agg ((bsK 24 W).map B))] m2])
     (Ex:=fun s x e h=>(x=.ret∧s=none∧e 10=.t nilT∧e 11=.t (I 2))∨(x=.exit 2∧∃ W m2,s=some W∧m2≤1∧h=[.row 99 [.t (.agg (srS c1 c2 t))] 1,.row 12 [.t (.agg ((bsK 12 V).map B))] m,.row 24 [.t (.agg ((bsK 24 W).map B))] m2]∧(e 1=.t (I (a:Nat))∧e 2=.t (I (b:Nat))∧e 4=.t (I most)∧e 12=.ref 0 1 0 0∧e 14=.ref 1 1 0 0∧e 17=.ref 2 1 0 0))) (s:=[]) (by omega) ?_ ?_ (by omega) ?_ ?_
    ·intro i n W e h' Y R hmn hi2 hx hget hlt hw ⟨hs',m2,hm2,hh⟩ hk
     subst hh
     have hgx:=hX2.get hx
     unfold avC at hk
     by_cases hn:n < 0∨((t.links.length:Nat):Int)≤n
     ·rw [if_pos hn,q09] at hk
      by_cases q1:n < 0
      ·have e1:=decide_eq_true q1
       (repeat' first|simp only [il12l1_go,il12l1b,go_sem,hs',hlt,hgx,hi2,e1,List.length_map]|with_reducible refine wX fun _=>?_|((with_reducible refine wY ?_ ?_); rfl)|fail)
       all_goals (refine hk _ _ _ (.inl ⟨rfl,rfl,?_,?_⟩) <;> simp only [go_sem])
      ·have e1:=decide_eq_false q1
       have e2:decide (((t.links.length:Nat):Int)≤n)=true:=decide_eq_true (by omega)
       (repeat' first|simp only [il12l1_go,il12l1b,go_sem,hs',hlt,hgx,hi2,e1,e2,List.length_map,q76]|with_reducible refine wX fun _=>?_|((with_reducible refine wY ?_ ?_); rfl)|fail)
       all_goals (refine hk _ _ _ (.inl ⟨rfl,rfl,?_,?_⟩) <;> simp only [go_sem])
     ·rw [if_neg hn,q06] at hk
      have e1:decide (n < 0)=false:=decide_eq_false (by omega)
      have e2:decide (((t.links.length:Nat):Int)≤n)=false:=decide_eq_false (by omega)
      obtain ⟨x,rfl⟩:∃ x:Nat,n=x:=⟨n.toNat,by omega⟩
      have x12:x < 24:=by omega
      have xb:x+1≤24:=by omega
      have tkx:=tk 24 W x x12
      rw [Int.toNat_natCast] at hk
      (repeat' first|simp only [il12l1_go,il12l1b,go_sem,hs',hlt,hw,hgx,hi2,e1,e2,List.length_map,q76,x12,xb,hm2,tkx,hset,hmt,lM,Nat.mul_one]|with_reducible refine wX fun _=>?_|((with_reducible refine wY ?_ ?_); rfl)|fail)
      all_goals (refine hk _ _ ⟨?_,1,Nat.le_refl 1,rfl⟩; simp only [go_sem,hs',hw])
    ·intro W e h' Y R hlt ⟨hs',m2,hm2,hh⟩ hk
     subst hh
     (repeat' first|simp only [il12l1_go,il12l1b,go_sem,hs',hlt]|with_reducible refine wX fun _=>?_|((with_reducible refine wY ?_ ?_); rfl)|fail)
     all_goals (refine hk _ _ _ (.inr ⟨rfl,W,m2,rfl,hm2,rfl,?_⟩); simp only [go_sem,hs'])
    ·refine ⟨?_,0,Nat.zero_le _,rfl⟩
     simp only [go_sem,he1,List.length_map]
    ·intro x e h' hx
     rw [q75,List.nil_append] at hx
     rcases hx with ⟨rfl,hx,h10,h11⟩|⟨rfl,W,m2,hx,hm2,hh,he2⟩
     ·cases hj:inR (t.links.length:Nat) L with
      | true=>rw [hj,if_pos rfl] at hx; cases hx
      | false =>
       have hA:lsA t a b N L most=.tup [nilT,I 2]:=if_neg (fun k=>by rw [hj] at k; cases k.2.1)
       rw [hA]
       (repeat' first|simp only [il12c,go_sem,h10,h11]|with_reducible refine wX fun _=>?_|((with_reducible refine wY ?_ ?_); rfl)|fail)
     ·cases hj:inR (t.links.length:Nat) L with
      | false=>rw [hj,if_neg (by simp)] at hx; cases hx
      | true =>
       rw [hj,if_pos rfl,Option.some.injEq] at hx
       subst hx
       subst hh
       obtain ⟨W,hW⟩:∃ W,W=L.map Int.toNat:=⟨_,rfl⟩
       rw [← hW]
       by_cases q1:most < 1
       ·have e1:=decide_eq_true q1
        have hA:lsA t a b N L most=.tup [nilT,I 2]:=if_neg (fun k=>by have:=k.2.2.1; omega)
        rw [hA]
        (repeat' first|simp only [il12c,go_sem,he2,e1]|with_reducible refine wX fun _=>?_|((with_reducible refine wY ?_ ?_); rfl)|fail)
       ·have e1:=decide_eq_false q1
        by_cases q2:8 < most
        ·have e2:=decide_eq_true q2
         have hA:lsA t a b N L most=.tup [nilT,I 2]:=if_neg (fun k=>by have:=k.2.2.2; omega)
         rw [hA]
         (repeat' first|simp only [il12c,go_sem,he2,e1,e2]|with_reducible refine wX fun _=>?_|((with_reducible refine wY ?_ ?_); rfl)|fail)
        ·have e2:=decide_eq_false q2
         have kl:=kL V W (by omega) (by omega)
         have hmm:((most.toNat:Nat):Int)=most:=by omega
         rw [hmm] at kl
         have hA:lsA t a b N L most=if dp (grT t) (avA t a V W) most.toNat b=[] then .tup [nilT,I 4] else .tup [rgT (dp (grT t) (avA t a V W) most.toNat b),I 0]:=by
          rw [hV,hW]
          exact if_pos ⟨hi,hj,by omega,by omega⟩
         rw [hA]
         have tM:=fun k V=>(List.take_of_length_le (by rw [List.length_map,List.length_map,q0S]; exact Nat.le_refl _):List.take k (((bsK k V).map B).map AV.t)=((bsK k V).map B).map AV.t)
         have tN:=fun k V=>(List.take_of_length_le (by rw [List.length_map,q0S]; exact Nat.le_refl _):List.take k ((bsK k V).map B)=(bsK k V).map B)
         by_cases q3:dp (grT t) (avA t a V W) most.toNat b=[]
         ·rw [q3] at kl
          rw [if_pos q3]
          simp only [qi2] at kl
          (repeat' first|simp only [il12c,go_sem,he2,e1,e2,hl,ht,htk,hs,hm',hm2,lM,tM,tN,List.length_map,kl]|with_reducible refine wX fun _=>?_|((with_reducible refine wY ?_ ?_); rfl)|fail)
         ·rw [if_neg q3]
          have bn:=@q2H (dp (grT t) (avA t a V W) most.toNat b) q3
          rw [rN_ne q3] at kl
          (repeat' first|simp only [il12c,go_sem,he2,e1,e2,hl,ht,htk,hs,hm',hm2,lM,tM,tN,List.length_map,kl,bn]|with_reducible refine wX fun _=>?_|((with_reducible refine wY ?_ ?_); rfl)|fail)
end
end Go.Proofs.Ytnjaokhdeaeegaa
namespace Go.Proofs.Ytnjaokhdeaeegaa
open Go Go.Abs
def begN (t:Tpo) (r:List Nat):Nat:=frN t (r[0]?.getD 0)
def ndN (t:Tpo) (r:List Nat):List Nat:=begN t r::r.map (toN t)
def stpN (t:Tpo) (a:List Nat) (p:Nat):Prop:=(a=[]∨frN t p=atE (grT t) 0 a∧stA t (frN t p)=false)∧toN t p ∉ (ndN t (a++[p])).dropLast
instance (t:Tpo) (a:List Nat) (p:Nat):Decidable (stpN t a p):=inferInstanceAs (Decidable (_∧_))
def okR (t:Tpo) (r:List Nat):Prop:=∀ i p,r[i]? = some p→stpN t (r.take i) p
def vlR (t:Tpo) (r:List Nat):Prop:=Wk (grT t) (freeA (stA t) (begN t r)) (atE (grT t) 0 r) r∧(r.map (toN t)).Nodup
theorem q25 {t:Tpo} {a:List Nat} {p:Nat}:(ndN t (a++[p])).dropLast=begN t (a++[p])::a.map (toN t):=by
 rw [ndN,List.map_append,← List.cons_append,List.map_cons,List.map_nil,List.dropLast_concat]
theorem q2I {t:Tpo} {a:List Nat} {p:Nat} (h:a≠[]):begN t (a++[p])=begN t a:=by
 unfold begN
 rw [List.getElem?_append_left (List.length_pos_iff.2 h)]
theorem qid {t:Tpo} {a:List Nat} {p:Nat}:okR t (a++[p])↔okR t a∧stpN t a p:=by
 unfold okR
 constructor
 ·intro h
  refine ⟨fun i q hi=>?_,?_⟩
  ·have hlt:=(List.getElem?_eq_some_iff.1 hi).1
   have:=h i q (by rw [List.getElem?_append_left hlt]; exact hi)
   rwa [List.take_append_of_le_length (by omega)] at this
  ·have:=h a.length p (by simp)
   rwa [List.take_left'] at this
   rfl
 ·rintro ⟨h1,h2⟩ i q hi
  by_cases hlt:i < a.length
  ·rw [List.getElem?_append_left hlt] at hi
   rw [List.take_append_of_le_length (by omega)]
   exact h1 i q hi
  ·have hl:=(List.getElem?_eq_some_iff.1 hi).1
   simp only [List.length_append,List.length_cons,List.length_nil] at hl
   obtain rfl:i=a.length:=by omega
   simp at hi
   subst hi
   rwa [List.take_left']
   rfl
theorem qie {t:Tpo} (h:okT t=true):∀ (r:List Nat),r≠[]→ptP t r→(okR t r↔vlR t r):=by
 intro r
 suffices hrev:∀ l:List Nat,l.reverse≠[]→ptP t l.reverse→(okR t l.reverse↔vlR t l.reverse) by
  have:=hrev r.reverse
  rwa [List.reverse_reverse] at this
 intro l
 induction l with
 | nil=>intro h; exact absurd rfl h
 | cons p l ih =>
  rw [List.reverse_cons]
  intro _ hp
  generalize l.reverse=a at *
  have hpp:=hp p (by simp)
  obtain ⟨p1,p2,n1,n2,n3⟩:=q0r h hpp
  rw [qid,vlR]
  rcases Classical.em (a=[]) with rfl|hne
  ·constructor
   ·intro _
    refine ⟨?_,by simp⟩
    rw [q0O,List.nil_append]
    exact .one ⟨hpp,rfl,fun e=>n3 e.symm⟩ rfl
   ·intro _
    refine ⟨fun i q hi=>by simp at hi,.inl rfl,?_⟩
    rw [q25]
    simp
    intro e
    exact n3 (by rw [e]; rfl)
  ·rw [ih hne (fun q hq=>hp q (by simp [hq])),q2I hne,q0O]
   constructor
   ·rintro ⟨⟨w,nd⟩,ok1,ok2⟩
    obtain ⟨e1,e2⟩:=ok1.resolve_left hne
    rw [q25,q2I hne,List.mem_cons,not_or] at ok2
    refine ⟨.snoc (by show Wk _ _ (frN t p) a; rw [e1]; exact w) e2 rfl ⟨hpp,rfl,ok2.1⟩,?_⟩
    rw [List.map_append,List.nodup_append]
    refine ⟨nd,by simp,fun x hx y hy hxy=>?_⟩
    simp only [List.map_cons,List.map_nil,List.mem_singleton] at hy
    subst hy hxy
    exact ok2.2 hx
   ·rintro ⟨w,nd⟩
    obtain ⟨hok,_,hiv⟩:=w.inv rfl
    rw [List.map_append,List.nodup_append] at nd
    rcases hiv with ⟨k,_⟩|⟨w1,s1,_⟩
    ·exact absurd k hne
    ·have e1:frN t p=atE (grT t) 0 a:=(q3m (frm:=0) w1).symm
     have w1:Wk (grT t) (freeA (stA t) (begN t a)) (frN t p) a:=w1
     rw [e1] at w1
     refine ⟨⟨w1,nd.1⟩,.inr ⟨e1,s1⟩,?_⟩
     rw [q25,q2I hne,List.mem_cons,not_or]
     exact ⟨hok.2.2,fun hm=>nd.2.2 _ hm (toN t p) (by simp) rfl⟩
end Go.Proofs.Ytnjaokhdeaeegaa
namespace Go.Proofs.Ytnjaokhdeaeegaa
open Go Go.Abs
def vsN (t:Tpo) (a:List Nat):List Nat:=if a=[] then [] else ndN t a
def vlC (t:Tpo) (_:Nat) (x:Int) (a:List Nat):Ctl (List Nat) Bool:=if x < 0∨((2*t.links.length:Nat):Int)≤x then .out false else if stpN t a x.toNat then .go (a++[x.toNat]) else .out false
def vldP (t:Tpo) (r:List Int):Prop:=(1≤r.length∧r.length≤8)∧(∀ x∈r,0≤x∧x < ((2*t.links.length:Nat):Int))∧okR t (r.map Int.toNat)
noncomputable def vldB (t:Tpo) (r:List Int):Bool:=@decide (vldP t r) (Classical.propDecidable _)
theorem q1c {t:Tpo} {r:List Int}:vldB t r=true↔vldP t r:=by simp [vldB]
theorem qif (t:Tpo):∀ (r:List Int) (i:Nat) (a:List Nat),okR t a→(foldC (vlC t) (fun _=>true) i r a=true↔(∀ x∈r,0≤x∧x < ((2*t.links.length:Nat):Int))∧okR t (a++r.map Int.toNat)):=by
 intro r
 induction r with
 | nil=>intro i a ha; simp [foldC,ha]
 | cons x r ih =>
  intro i a ha
  by_cases hx:x < 0∨((2*t.links.length:Nat):Int)≤x
  ·rw [q0p (r:=false) (by rw [vlC,if_pos hx])]
   constructor
   ·intro k; cases k
   ·rintro ⟨k,_⟩
    have:=k x (by simp)
    omega
  ·by_cases hs:stpN t a x.toNat
   ·rw [q0g (s':=a++[x.toNat]) (by rw [vlC,if_neg hx,if_pos hs]),ih _ _ (qid.2 ⟨ha,hs⟩),List.append_assoc]
    constructor
    ·rintro ⟨k1,k2⟩
     refine ⟨fun y hy=>?_,k2⟩
     rcases List.mem_cons.1 hy with rfl|hy
     ·omega
     ·exact k1 y hy
    ·rintro ⟨k1,k2⟩
     exact ⟨fun y hy=>k1 y (List.mem_cons_of_mem _ hy),k2⟩
   ·rw [q0p (r:=false) (by rw [vlC,if_neg hx,if_neg hs])]
    constructor
    ·intro k; cases k
    ·rintro ⟨_,k⟩
     exfalso
     apply hs
     have:=k a.length x.toNat (by simp)
     rwa [List.take_left'] at this
     rfl
section
variable (c1 c2 c:Bool) (t:Tpo) (h:okT t=true)
include h
theorem qig (r:List Int) (hr:r.length≤1000):ans Try.prog pol 49 [srT c1 c2 t,.sl c 1 (r.map I)]=some (B (vldB t r)):=by
 obtain ⟨z1,z2,z3⟩:=q0h h
 have hsr:=q0y (c1:=c1) (c2:=c2) (t:=t) (F:=endsL t (frP t)) (G:=endsL t (toP t))
 have hl:=q0D (c1:=c1) (c2:=c2) (t:=t) (q0a t (frP t)) (q0a t (toP t))
 have htk:List.take 99 (srS c1 c2 t)=srS c1 c2 t:=List.take_of_length_le (by rw [hl]; exact Nat.le_refl _)
 have kP:=q1F c1 c2 t (endsL t (frP t)) (endsL t (toP t)) h
 have zB:zB12=(bsK 12 []).map B:=rfl
 have sM:=fun k V=>q21 (bsK k V)
 have lM:=fun k V=>q0S k V
 by_cases h1:r.length < 1
 ·have e1:decide (((r.length:Nat):Int) < 1)=true:=decide_eq_true (by omega)
  have hA:vldB t r=false:=by rw [← Bool.not_eq_true,q1c]; intro k; have:=k.1; omega
  rw [hA]
  refine q02 1 1 il49_eq (Nat.le_of_ble_eq_true rfl) ?_
  (repeat' first|simp only [il49c,go_sem,hsr,e1,List.length_map]|with_reducible refine wX fun _=>?_|((with_reducible refine wY ?_ ?_); rfl)|fail)
 have e1:decide (((r.length:Nat):Int) < 1)=false:=decide_eq_false (by omega)
 by_cases h8:8 < r.length
 ·have e2:decide ((8:Int) < ((r.length:Nat):Int))=true:=decide_eq_true (by omega)
  have hA:vldB t r=false:=by rw [← Bool.not_eq_true,q1c]; intro k; have:=k.1; omega
  rw [hA]
  refine q02 1 1 il49_eq (Nat.le_of_ble_eq_true rfl) ?_
  (repeat' first|simp only [il49c,go_sem,hsr,e1,e2,List.length_map]|with_reducible refine wX fun _=>?_|((with_reducible refine wY ?_ ?_); rfl)|fail)
 have e2:decide ((8:Int) < ((r.length:Nat):Int))=false:=decide_eq_false (by omega)
 have hA:vldB t r=foldC (vlC t) (fun _=>true) 0 r []:=by
  rw [Bool.eq_iff_iff,q1c,qif t r 0 [] (fun i p hi=>by simp at hi),List.nil_append]
  exact ⟨fun k=>k.2,fun k=>⟨by omega,k⟩⟩
 rw [hA]
 clear hA
 obtain ⟨nn,hnn⟩:∃ nn,2000 < nn:=⟨2001,by omega⟩
 refine q02 nn 1 il49_eq (Nat.le_of_ble_eq_true rfl) ?_
 (repeat' first|simp only [il49c,go_sem,hsr,e1,e2,zB,sM,lM,List.length_map]|with_reducible refine wX fun _=>?_|((with_reducible refine wY ?_ ?_); rfl)|fail)
 refine q0k r I (step:=vlC t) (fin:=fun _=>true)
  (St:=fun i a e h=>(e 1=.t (.sl c 1 (r.map I))∧e 2=.t (.ip (srS c1 c2 t))∧e 5=.ref 0 1 0 0∧e 17=.t (.sl c 1 (r.map I))∧e 18=.t (I (r.length:Nat))∧e 19=.t (I (i:Nat)))∧(a=(r.take i).map Int.toNat∧ptP t a∧∀ x∈r.take i,0≤x)∧∃ m,m≤1∧h=[.row 12 [.t (.agg ((bsK 12 (vsN t a)).map B))] m])
  (Ex:=fun s x e h=>(x=.ret∧s=false∧e 4=.t (B false))∨(x=.exit 0∧s=true)) (s:=[]) (by omega) ?_ ?_ (by omega) ?_ ?_
 ·intro i x a e h' Y R hm hi hx hget hlt hw ⟨hs,⟨ha,hpa,hnn0⟩,m,hm1,hh⟩ hk
  subst hh
  have htake:r.take (i+1)=r.take i++[x]:=by
   rw [List.take_add_one,hx]; rfl
  unfold vlC at hk
  by_cases q0:x < 0∨((2*t.links.length:Nat):Int)≤x
  ·rw [if_pos q0,q09] at hk
   by_cases q1:x < 0
   ·have g1:=decide_eq_true q1
    (repeat' first|simp only [il49l0_go,il49l0b,go_sem,hs,hlt,hget,hi,g1,List.length_map]|with_reducible refine wX fun _=>?_|((with_reducible refine wY ?_ ?_); rfl)|fail)
    all_goals (refine hk _ _ _ (.inl ⟨rfl,rfl,?_⟩); simp only [go_sem])
   ·have g1:=decide_eq_false q1
    have g2:decide (((2*t.links.length:Nat):Int)≤x)=true:=decide_eq_true (by omega)
    (repeat' first|simp only [il49l0_go,il49l0b,go_sem,hs,hlt,hget,hi,g1,g2,List.length_map,hl,htk,kP]|with_reducible refine wX fun _=>?_|((with_reducible refine wY ?_ ?_); rfl)|fail)
    all_goals (refine hk _ _ _ (.inl ⟨rfl,rfl,?_⟩); simp only [go_sem])
  ·rw [if_neg q0] at hk
   obtain ⟨p,rfl⟩:∃ p:Nat,x=p:=⟨x.toNat,by omega⟩
   rw [Int.toNat_natCast] at hk
   have hp:p < 2*t.links.length:=by omega
   have g1:decide (((p:Nat):Int) < 0)=false:=decide_eq_false (by omega)
   have g2:decide (((2*t.links.length:Nat):Int)≤((p:Nat):Int))=false:=decide_eq_false (by omega)
   obtain ⟨p1,p2,n1,n2,n3⟩:=q0r h hp
   have gF:=q2B (c1:=c1) (c2:=c2) (t:=t) (G:=endsL t (toP t)) (q0P (f:=frP t) z3 hp)
   have gT:=q1m (c1:=c1) (c2:=c2) (t:=t) (q0a t (frP t)) (q0P (f:=toP t) z3 hp)
   rw [p1] at gF
   rw [p2] at gT
   have h48:p < 48:=by omega
   have f12:frN t p < 12:=by omega
   have t12:toN t p < 12:=by omega
   have fb:frN t p+1≤12:=f12
   have tb:toN t p+1≤12:=t12
   have tk:=fun V (n:Nat) (hn:n < 12)=>@tkdr (((bsK 12 V).map B).map AV.t) n (.t (B true)) (by simp [q0S]; omega)
   have hset:=fun V (n:Nat)=>map_set (enc:=B) (l:=bsK 12 V) (i:=n) (x:=true)
   have hmt:=fun V (n:Nat)=>@q72 12 V n
   have gM:=fun V:List Nat=>(q1C (enc:=B) (by rw [bsK,List.getElem?_map,List.getElem?_range t12]; rfl):(((bsK 12 V).map B).map AV.t)[toN t p]? = some (.t (B (decide (toN t p∈V)))))
   have gst:(t.station.map B)[frN t p]? = some (B (stA t (frN t p))):=q1H t h n1
   have hst:frN t p < t.station.length:=by omega
   have hnd:=@q25 t a p
   have hpa2:ptP t (a++[p]):=fun q hq=>(List.mem_append.1 hq).elim (hpa q) (fun hq=>by rw [List.mem_singleton.1 hq]; exact hp)
   have hst2:a++[p]=(r.take (i+1)).map Int.toNat∧ptP t (a++[p])∧∀ x∈r.take (i+1),0≤x:=by
    rw [htake]
    refine ⟨by rw [List.map_append,← ha]; rfl,hpa2,fun y hy=>?_⟩
    rcases List.mem_append.1 hy with hy|hy
    ·exact hnn0 y hy
    ·rw [List.mem_singleton.1 hy]; omega
   have hv2:vsN t (a++[p])=(begN t (a++[p])::a.map (toN t))++[toN t p]:=by
    rw [vsN,if_neg (by simp),ndN,List.map_append]; rfl
   have hal:a.length=i:=by rw [ha,List.length_map,List.length_take]; omega
   by_cases h0:i=0
   ·have ha0:a=[]:=List.eq_nil_of_length_eq_zero (by omega)
    have g3:decide (((i:Nat):Int)=0)=true:=decide_eq_true (by omega)
    have hv:vsN t a=[]:=by rw [ha0]; rfl
    have hstp:stpN t a p:=by
     refine ⟨.inl ha0,?_⟩
     rw [hnd,ha0]
     simp
     intro e
     exact n3 (by rw [e]; rfl)
    have hnm:decide (toN t p∈[frN t p])=false:=decide_eq_false (by simp; omega)
    have gM2:=gM [frN t p]
    rw [hnm] at gM2
    rw [if_pos hstp,q06] at hk
    rw [hv]
    have hv3:vsN t (a++[p])=[frN t p,toN t p]:=by rw [hv2,ha0]; rfl
    have hmt1:(bsK 12 []).set (frN t p) true=bsK 12 [frN t p]:=hmt [] _
    have hmt2:(bsK 12 [frN t p]).set (toN t p) true=bsK 12 [frN t p,toN t p]:=hmt [frN t p] _
    (repeat' first|simp only [il49l0_go,il49l0b,go_sem,hs,hlt,hw,hget,hi,g1,g2,g3,List.length_map,hl,htk,kP,gF,gT,h48,f12,t12,fb,tb,tk,hset,hmt1,hmt2,gM2,lM,hm1,q0b,Nat.mul_one,List.drop_drop]|with_reducible refine wX fun _=>?_|((with_reducible refine wY ?_ ?_); rfl)|fail)
    all_goals (refine hk _ _ ⟨?_,hst2,1,Nat.le_refl 1,by rw [hv3]⟩; simp only [go_sem,hs,hw])
   ·have hane:a≠[]:=fun e=>h0 (by rw [← hal,e]; rfl)
    have g3:decide (((i:Nat):Int)=0)=false:=decide_eq_false (by omega)
    obtain ⟨a',q,hq⟩:∃ a' q,a=a'++[q]:=⟨a.dropLast,a.getLast hane,(List.dropLast_concat_getLast hane).symm⟩
    have hat:atE (grT t) 0 a=toN t q:=by rw [hq,q0O]; rfl
    have hqp:q < 2*t.links.length:=hpa q (by rw [hq]; simp)
    obtain ⟨y1,y2,y3,y4,y5⟩:=q0r h hqp
    have gQ:=q1m (c1:=c1) (c2:=c2) (t:=t) (q0a t (frP t)) (q0P (f:=toP t) z3 hqp)
    rw [y2] at gQ
    have q48:q < 48:=by omega
    have w1:IntKind.i64.wrap (((i:Nat):Int) - 1)=((i - 1:Nat):Int):=by rw [q00 (by omega) (by omega)]; omega
    have hi1:i - 1 < r.length:=by omega
    have hri:r[i - 1]? = some ((q:Nat):Int):=by
     have e1:a[i - 1]? = some q:=by rw [hq]; have:i - 1=a'.length:=by rw [hq] at hal; simp at hal; omega
                                    rw [this]; simp
     rw [ha,List.getElem?_map,List.getElem?_take,if_pos (by omega),List.getElem?_eq_getElem hi1] at e1
     rw [List.getElem?_eq_getElem hi1]
     simp only [Option.map_some,Option.some.injEq] at e1 ⊢
     have:=hnn0 r[i - 1] (List.mem_iff_getElem?.2 ⟨i - 1,by rw [List.getElem?_take,if_pos (by omega),List.getElem?_eq_getElem hi1]⟩)
     omega
    have gr1:(r.map I)[i - 1]? = some (I ((q:Nat):Int)):=by rw [List.getElem?_map,hri]; rfl
    have hv:vsN t a=begN t (a++[p])::a.map (toN t):=by rw [vsN,if_neg hane,q2I hane]; rfl
    have hstp:stpN t a p↔(frN t p=toN t q∧stA t (frN t p)=false)∧toN t p ∉ vsN t a:=by
     rw [hv,stpN,hnd,hat]
     exact ⟨fun k=>⟨k.1.resolve_left hane,k.2⟩,fun k=>⟨.inr k.1,k.2⟩⟩
    have hv4:vsN t (a++[p])=vsN t a++[toN t p]:=by rw [hv2,hv]
    have gM2:=gM (vsN t a)
    have hmt2:=hmt (vsN t a) (toN t p)
    generalize vsN t a=V at *
    by_cases z0:frN t p=toN t q
    ·have g4:decide (((frN t p:Nat):Int)=((toN t q:Nat):Int))=true:=decide_eq_true (by omega)
     cases z5:stA t (frN t p) with
     | true =>
      rw [z5] at gst
      rw [if_neg (fun k=>by have:=(hstp.1 k).1.2; rw [z5] at this; cases this),q09] at hk
      (repeat' first|simp only [il49l0_go,il49l0b,go_sem,hs,hlt,hw,hget,hi,g1,g2,g3,g4,w1,hi1,gr1,List.length_map,hl,htk,kP,gF,gT,gQ,q48,h48,f12,t12,gst,hst,srC_1,lM,hm1,q0b,Nat.mul_one,List.drop_drop]|with_reducible refine wX fun _=>?_|((with_reducible refine wY ?_ ?_); rfl)|fail)
      all_goals (refine hk _ _ _ (.inl ⟨rfl,rfl,?_⟩); simp only [go_sem])
     | false =>
      rw [z5] at gst
      cases z6:decide (toN t p∈V) with
      | true =>
       rw [z6] at gM2
       rw [if_neg (fun k=>(hstp.1 k).2 (of_decide_eq_true z6)),q09] at hk
       (repeat' first|simp only [il49l0_go,il49l0b,go_sem,hs,hlt,hw,hget,hi,g1,g2,g3,g4,w1,hi1,gr1,List.length_map,hl,htk,kP,gF,gT,gQ,q48,h48,f12,t12,gst,hst,srC_1,gM2,lM,hm1,q0b,Nat.mul_one,List.drop_drop]|with_reducible refine wX fun _=>?_|((with_reducible refine wY ?_ ?_); rfl)|fail)
       all_goals (refine hk _ _ _ (.inl ⟨rfl,rfl,?_⟩); simp only [go_sem])
      | false =>
       rw [z6] at gM2
       rw [if_pos (hstp.2 ⟨⟨z0,z5⟩,of_decide_eq_false z6⟩),q06] at hk
       (repeat' first|simp only [il49l0_go,il49l0b,go_sem,hs,hlt,hw,hget,hi,g1,g2,g3,g4,w1,hi1,gr1,List.length_map,hl,htk,kP,gF,gT,gQ,q48,h48,f12,t12,tb,tk,hset,hmt2,gst,hst,srC_1,gM2,lM,hm1,q0b,Nat.mul_one,List.drop_drop]|with_reducible refine wX fun _=>?_|((with_reducible refine wY ?_ ?_); rfl)|fail)
       all_goals (refine hk _ _ ⟨?_,hst2,1,Nat.le_refl 1,by rw [hv4]⟩; simp only [go_sem,hs,hw])
    ·have g4:decide (((frN t p:Nat):Int)=((toN t q:Nat):Int))=false:=decide_eq_false (by omega)
     rw [if_neg (fun k=>z0 (hstp.1 k).1.1),q09] at hk
     (repeat' first|simp only [il49l0_go,il49l0b,go_sem,hs,hlt,hw,hget,hi,g1,g2,g3,g4,w1,hi1,gr1,List.length_map,hl,htk,kP,gF,gT,gQ,q48,h48,f12,t12,lM,hm1,q0b,Nat.mul_one,List.drop_drop]|with_reducible refine wX fun _=>?_|((with_reducible refine wY ?_ ?_); rfl)|fail)
     all_goals (refine hk _ _ _ (.inl ⟨rfl,rfl,?_⟩); simp only [go_sem])
 ·intro a e h' Y R hlt ⟨hs,_,m,hm1,hh⟩ hk
  subst hh
  (repeat' first|simp only [il49l0_go,il49l0b,go_sem,hs,hlt]|with_reducible refine wX fun _=>?_|((with_reducible refine wY ?_ ?_); rfl)|fail)
  all_goals exact hk _ _ _ (.inr ⟨rfl,rfl⟩)
 ·refine ⟨?_,⟨rfl,(fun p hp=>by cases hp),(fun x hx=>by simp at hx)⟩,0,Nat.zero_le _,rfl⟩
  simp only [go_sem,List.length_map]
 ·intro x e h' hx
  rcases hx with ⟨rfl,hx,h4⟩|⟨rfl,hx⟩
  ·rw [hx]
   (repeat' first|simp only [il49c,go_sem,h4]|with_reducible refine wX fun _=>?_|((with_reducible refine wY ?_ ?_); rfl)|fail)
  ·rw [hx]
   (repeat' first|simp only [il49c,go_sem]|with_reducible refine wX fun _=>?_|((with_reducible refine wY ?_ ?_); rfl)|fail)
omit h in
theorem q42 {r:List Int} {k:Int} (hr:∀ x∈r,0≤x∧x < k):r.map I=ptL (r.map Int.toNat):=by
 have e:(r.map Int.toNat).map ofN=r:=by
  induction r with
  | nil=>rfl
  | cons x r ih =>
   rw [List.map_cons,List.map_cons,ih (fun y hy=>hr y (List.mem_cons_of_mem _ hy))]
   have:=hr x (by simp)
   congr 1
   show ((x.toNat:Nat):Int)=x
   omega
 rw [ptL,e]
omit h in
theorem q43 {r:List Int} (hr:∀ x∈r,0≤x∧x < ((2*t.links.length:Nat):Int)):ptP t (r.map Int.toNat):=by
 intro p hp
 obtain ⟨x,hx,rfl⟩:=List.mem_map.1 hp
 have:=hr x hx
 omega
omit h in
theorem qih (r:List Int) (h:okT t=false):ans Try.prog pol 20 [tpT c1 c2 t,.sl c 1 (r.map I)]=some (.tup [I 0,I 260]):=by
 have k1:=q6j c1 c2 t h
 have hdr:List.drop 99 (zS99.map AV.t)=[]:=rfl
 have ht:List.take 99 (zS99.map AV.t)=zS99.map AV.t:=rfl
 refine q02 1 1 il20_eq (Nat.le_of_ble_eq_true rfl) ?_
 (repeat' first|simp only [il20c,go_sem,k1,q0s,q0v,hdr,ht]|with_reducible refine wX fun _=>?_|((with_reducible refine wY ?_ ?_); rfl)|fail)
noncomputable def csA (t:Tpo) (r:List Int):T:=if vldB t r=true then .tup [I (gw (grT t) (r.map Int.toNat)),I 0] else .tup [I 0,I 310]
theorem q78 (r:List Int) (hr:r.length≤1000):ans Try.prog pol 20 [tpT c1 c2 t,.sl c 1 (r.map I)]=some (csA t r):=by
 have k1:=q3H c1 c2 t h
 have kv:=qig c1 c2 c t h r hr
 have hdr:List.drop 99 (zS99.map AV.t)=[]:=rfl
 have hl:=q0D (c1:=c1) (c2:=c2) (t:=t) (q0a t (frP t)) (q0a t (toP t))
 have ht:=q1G hl
 have htk:List.take 99 (srS c1 c2 t)=srS c1 c2 t:=List.take_of_length_le (by rw [hl]; exact Nat.le_refl _)
 have hs:=q0y (c1:=c1) (c2:=c2) (t:=t) (F:=endsL t (frP t)) (G:=endsL t (toP t))
 unfold csA
 cases hv:vldB t r with
 | false =>
  rw [hv] at kv
  refine q02 1 1 il20_eq (Nat.le_of_ble_eq_true rfl) ?_
  (repeat' first|simp only [il20c,go_sem,k1,q0s,q0v,hdr,hl,ht,htk,hs,kv]|with_reducible refine wX fun _=>?_|((with_reducible refine wY ?_ ?_); rfl)|fail)
 | true =>
  rw [hv] at kv
  obtain ⟨_,v2,_⟩:=q1c.1 hv
  have kc:=q3I c1 c2 c t h (r.map Int.toNat) (q43 t v2) (by rw [List.length_map]; exact hr)
  rw [← q42 v2] at kc
  generalize gw (grT t) (r.map Int.toNat)=C at *
  refine q02 1 1 il20_eq (Nat.le_of_ble_eq_true rfl) ?_
  (repeat' first|simp only [il20c,go_sem,k1,q0s,q0v,hdr,hl,ht,htk,hs,kv,kc]|with_reducible refine wX fun _=>?_|((with_reducible refine wY ?_ ?_); rfl)|fail)
end
end Go.Proofs.Ytnjaokhdeaeegaa
namespace Go.Proofs.Ytnjaokhdeaeegaa
open Go Go.Abs
def wyL (t:Tpo) (frm:Nat) (node link:Int) (k:Nat):List Bool:=(List.range k).foldl (fun S _=>jrR t frm node link S) ((List.replicate t.nodes.toNat false).set frm true)
theorem qii {t:Tpo} (h:okT t=true) {frm:Nat} (hf:frm < t.nodes.toNat) {node link:Int} (k:Nat):RelS t.nodes.toNat (wyL t frm node link k) (iter (sprB (jnEs (grT t) (stA t) frm node link)) k (fun j=>decide (j=frm))):=by
 unfold wyL
 induction k with
 | zero =>
  refine ⟨by simp,fun n hn=>?_⟩
  show ((List.replicate t.nodes.toNat false).set frm true)[n]? = some (decide (n=frm))
  by_cases e:n=frm
  ·subst e; rw [List.getElem?_set_self (by simpa using hn)]; simp
  ·rw [List.getElem?_set_ne (fun k=>e k.symm),List.getElem?_replicate,if_pos hn]; simp [e]
 | succ k ih=>rw [List.range_succ,List.foldl_append,List.foldl_cons,List.foldl_nil]; exact q6p h (Nat.le_refl _) ih
abbrev rowB (S:List Bool) (m:Nat):AObj:=.row 1 ((S.map B).map .t) m
section
variable (c1 c2:Bool) (t:Tpo) (h:okT t=true) (frm:Nat) (hf:frm < t.nodes.toNat) (node link:Int)
include h hf
theorem qij (x2 x12:T) (N:Nat) (hNN:N=t.nodes.toNat) (S:List Bool) (hS:S.length=N) (m:Nat) (hm:m≤N)
  (J:Inl) (nn:Nat) (hn:100 < nn) (R:Xit→FEnv→Heap→Prop) (e:FEnv)
  (he:e 1=.t (I (frm:Nat))∧e 2=.t x2∧e 3=.t (I node)∧e 4=.t (I link)∧e 5=.t (.ip (tpC c1 c2 t))∧e 11=.ms 0 N 0 N 1 true∧e 12=.t x12∧e 13=.t (I 0))
  (hR:∀ e m',m'≤N→(e 1=.t (I (frm:Nat))∧e 2=.t x2∧e 3=.t (I node)∧e 4=.t (I link)∧e 5=.t (.ip (tpC c1 c2 t))∧e 11=.ms 0 N 0 N 1 true∧e 12=.t x12)→R (.exit 2) e [rowB (jrR t frm node link S) m']) :
  wpIter 1 (some [1,2,3,4,5,11,12,13]) (wc Try.prog pol (ans Try.prog pol) J nn 63 il63l0) R nn e [rowB S m]:=by
 obtain ⟨z1,z2,z3⟩:=q0h h
 refine q0G (2*t.links.length) (step:=fun p S=>.go (jrS t frm node link S p)) (fin:=id)
  (St:=fun p S e h'=>(e 1=.t (I (frm:Nat))∧e 2=.t x2∧e 3=.t (I node)∧e 4=.t (I link)∧e 5=.t (.ip (tpC c1 c2 t))∧e 11=.ms 0 N 0 N 1 true∧e 12=.t x12∧e 13=.t (I (p:Nat)))∧S.length=N∧∃ m,m≤N∧h'=[rowB S m])
  (Ex:=fun S x e h'=>(e 1=.t (I (frm:Nat))∧e 2=.t x2∧e 3=.t (I node)∧e 4=.t (I link)∧e 5=.t (.ip (tpC c1 c2 t))∧e 11=.ms 0 N 0 N 1 true∧e 12=.t x12)∧x=.exit 2∧∃ m,m≤N∧h'=[rowB S m]) (s:=S) (by omega) ?_ ?_ (by omega) ⟨he,hS,m,hm,rfl⟩ ?_
 ·intro p S e h' Y R' hp hlt hw ⟨hs,hS,m,hm,hh⟩ hk
  subst hh
  simp only [q06] at hk
  obtain ⟨p1,p2,n1,n2,_⟩:=q0r h hp
  have v0:IntKind.i64.wrap (2*(t.links.length:Nat))=((2*t.links.length:Nat):Int):=by rw [q00 (by omega) (by omega)]; omega
  have kF:=q3F c1 c2 t p hp (by omega)
  have kT:=q6h c1 c2 t p hp (by omega)
  rw [p1] at kF
  rw [p2] at kT
  have gS:=q1Z (S:=S) (n:=frN t p) (by omega)
  have gst:(t.station.map B)[frN t p]? = some (B (stA t (frN t p))):=(q1l t z2 ⟨by omega,by omega⟩:(t.station.map B)[(((frN t p):Nat):Int).toNat]? = _∧_).1
  have hst:frN t p < t.station.length:=by omega
  have v:=q0Y hp (show t.links.length≤1000 by omega)
  have hset:=map_set (enc:=B) (l:=S) (i:=toN t p) (x:=true)
  have gT:=q1Z (S:=S) (n:=toN t p) (by omega)
  have fN:frN t p < N:=by omega
  have tN:toN t p < N:=by omega
  have hlen:((S.map B).map AV.t).length=N:=by simp [hS]
  have hsl:(jrS t frm node link S p).length=N:=by rw [q3J]; exact hS
  have hbd:badP (grT t) (stA t) frm node link p=(decide (((p / 2:Nat):Int)=link) || (decide (((frN t p:Nat):Int)=node) || (!decide (((frN t p:Nat):Int)=(frm:Nat)) && stA t (frN t p)))):=by
   have:decide ((grT t).fr p≠frm) = !decide (((frN t p:Nat):Int)=(frm:Nat)):=by
    show decide (frN t p≠frm)=_
    rw [Bool.eq_iff_iff]; simp only [decide_eq_true_eq,Bool.not_eq_true',decide_eq_false_iff_not]; omega
   rw [badP,this]; rfl
  unfold jrS at hk hsl
  rw [hbd] at hk hsl
  clear hbd
  generalize toN t p=C at *
  generalize frN t p=A at *
  generalize hd1:decide (((p / 2:Nat):Int)=link)=d1 at *
  generalize hd2:decide (((A:Nat):Int)=node)=d2 at *
  generalize hd3:decide (((A:Nat):Int)=(frm:Nat))=d3 at *
  generalize stA t A=sa at *
  generalize bA S A=ba at *
  generalize bA S C=bc at *
  cases d1 with
  | true =>
   rw [if_neg (fun k=>by cases k.2)] at hk hsl
   (repeat' first|simp only [il63l0_go,il63l0b,go_sem,hs,hlt,hw,kF,kT,fN,tN,gS,gst,hst,v,v0,hd1,hlen,hm,List.length_map]|with_reducible refine wX fun _=>?_|((with_reducible refine wY ?_ ?_); rfl)|fail)
   all_goals (refine hk _ _ ⟨?_,hS,m,hm,rfl⟩; simp only [go_sem,hs,hw])
  | false =>
   cases ba with
   | false =>
    rw [if_neg (fun k=>by cases k.1)] at hk hsl
    (repeat' first|simp only [il63l0_go,il63l0b,go_sem,hs,hlt,hw,kF,kT,fN,tN,gS,gst,hst,v,v0,hd1,hlen,hm,List.length_map]|with_reducible refine wX fun _=>?_|((with_reducible refine wY ?_ ?_); rfl)|fail)
    all_goals (refine hk _ _ ⟨?_,hS,m,hm,rfl⟩; simp only [go_sem,hs,hw])
   | true =>
    cases d2 with
    | true =>
     rw [if_neg (fun k=>by cases k.2)] at hk hsl
     (repeat' first|simp only [il63l0_go,il63l0b,go_sem,hs,hlt,hw,kF,kT,fN,tN,gS,gst,hst,v,v0,hd1,hd2,hlen,hm,List.length_map]|with_reducible refine wX fun _=>?_|((with_reducible refine wY ?_ ?_); rfl)|fail)
     all_goals (refine hk _ _ ⟨?_,hS,m,hm,rfl⟩; simp only [go_sem,hs,hw])
    | false =>
     cases d3 with
     | true =>
      rw [if_pos ⟨rfl,rfl⟩] at hk hsl
      (repeat' first|simp only [il63l0_go,il63l0b,go_sem,hs,hlt,hw,kF,kT,fN,tN,gS,gT,gst,hst,v,v0,hd1,hd2,hd3,hlen,hset,hm,List.length_map]|with_reducible refine wX fun _=>?_|((with_reducible refine wY ?_ ?_); rfl)|fail)
      all_goals (refine hk _ _ ⟨?_,hsl,N,Nat.le_refl N,rfl⟩; simp only [go_sem,hs,hw])
     | false =>
      cases sa with
      | true =>
       rw [if_neg (fun k=>by cases k.2)] at hk hsl
       (repeat' first|simp only [il63l0_go,il63l0b,go_sem,hs,hlt,hw,kF,kT,fN,tN,gS,gst,hst,v,v0,hd1,hd2,hd3,hlen,hm,List.length_map]|with_reducible refine wX fun _=>?_|((with_reducible refine wY ?_ ?_); rfl)|fail)
       all_goals (refine hk _ _ ⟨?_,hS,m,hm,rfl⟩; simp only [go_sem,hs,hw])
      | false =>
       rw [if_pos ⟨rfl,rfl⟩] at hk hsl
       (repeat' first|simp only [il63l0_go,il63l0b,go_sem,hs,hlt,hw,kF,kT,fN,tN,gS,gT,gst,hst,v,v0,hd1,hd2,hd3,hlen,hset,hm,List.length_map]|with_reducible refine wX fun _=>?_|((with_reducible refine wY ?_ ?_); rfl)|fail)
       all_goals (refine hk _ _ ⟨?_,hsl,N,Nat.le_refl N,rfl⟩; simp only [go_sem,hs,hw])
 ·intro S e h' Y R' hlt ⟨hs,hS,m,hm,hh⟩ hk
  have v0:IntKind.i64.wrap (2*(t.links.length:Nat))=((2*t.links.length:Nat):Int):=by rw [q00 (by omega) (by omega)]; omega
  subst hh
  (repeat' first|simp only [il63l0_go,il63l0b,go_sem,hs,hlt,v0,List.length_map]|with_reducible refine wX fun _=>?_|((with_reducible refine wY ?_ ?_); rfl)|fail)
  all_goals (refine hk _ _ _ ⟨?_,rfl,m,hm,rfl⟩; simp only [go_sem,hs,id])
 ·intro x e h' ⟨h1,h2,m,hm,h3⟩
  subst h2 h3
  have hfo:∀ (k i:Nat) (S:List Bool),foldC (ρ:=List Bool) (fun p (_:Unit) S=>Ctl.go (jrS t frm node link S p)) id i (List.replicate k ()) S=(List.range' i k).foldl (jrS t frm node link) S:=by
   intro k
   induction k with
   | zero=>intro i S; rfl
   | succ k ih=>intro i S; rw [List.replicate_succ,q0g (s':=jrS t frm node link S i) rfl,ih,List.range'_succ]; rfl
  rw [hfo,← List.range_eq_range'] at *
  exact hR _ m hm h1
theorem qik (tgt:Nat) (ht:tgt < t.nodes.toNat):ans Try.prog pol 63 [tpT c1 c2 t,I (frm:Nat),I (tgt:Nat),I node,I link]=some (B (jnB (grT t) (stA t) frm t.nodes.toNat node link tgt)):=by
 obtain ⟨z1,z2,z3⟩:=q0h h
 have hrel:=qii h (frm:=frm) (by omega) (node:=node) (link:=link) t.nodes.toNat
 have hres:jnB (grT t) (stA t) frm t.nodes.toNat node link tgt=bA (wyL t frm node link t.nodes.toNat) tgt:=by
  rw [bA,hrel.2 tgt (by omega)]; rfl
 rw [hres]
 have hlen:=hrel.1
 clear hres hrel
 have hNn:((t.nodes.toNat:Nat):Int)=t.nodes:=by omega
 have hn0:0≤t.nodes:=by omega
 have hLL:wyL t frm node link t.nodes.toNat=(List.range t.nodes.toNat).foldl (fun S _=>jrR t frm node link S) ((List.replicate t.nodes.toNat false).set frm true):=rfl
 rw [hLL] at hlen ⊢
 clear hLL
 have hf':=hf
 generalize hNN:t.nodes.toNat=N at *
 have hN12:N≤12:=by omega
 have hset:=map_set (enc:=B) (l:=List.replicate N false) (i:=frm) (x:=true)
 have hz:List.replicate N (AV.t (T.sc (.bool false)))=((List.replicate N false).map B).map AV.t:=by simp
 have gz:(((List.replicate N false).map B).map AV.t)[frm]? = some (.t (B false)):=q1C (enc:=B) (by simp [hf'])
 have lz:(((List.replicate N false).map B).map AV.t).length=N:=by simp
 have hS0:((List.replicate N false).set frm true).length=N:=by simp
 have hroom:1*N≤roomB:=by rw [q1k]; omega
 have hroom1:N≤roomB:=by rw [q1k]; omega
 have hroom2:N≤9223372036854775807:=by omega
 generalize (List.replicate N false).set frm true=S0 at *
 obtain ⟨nn,hn⟩:∃ nn,1000 < nn:=⟨1001,by omega⟩
 refine q02 nn 1 il63_eq (Nat.le_of_ble_eq_true rfl) ?_
 (repeat' first|simp only [il63c,go_sem,hNN,hn0,hz,gz,lz,hset,hf',hroom,hroom1,hroom2,Nat.one_mul]|with_reducible refine wX fun _=>?_|((with_reducible refine wY ?_ ?_); rfl)|fail)
 refine q0G N (step:=fun _ S=>.go (jrR t frm node link S)) (fin:=id)
  (St:=fun i S e h'=>(e 1=.t (I (frm:Nat))∧e 2=.t (I (tgt:Nat))∧e 3=.t (I node)∧e 4=.t (I link)∧e 5=.t (.ip (tpC c1 c2 t))∧e 11=.ms 0 N 0 N 1 true∧e 12=.t (I (i:Nat)))∧S.length=N∧∃ m,m≤N∧h'=[rowB S m])
  (Ex:=fun S x e h'=>(e 2=.t (I (tgt:Nat))∧e 11=.ms 0 N 0 N 1 true)∧x=.exit 0∧∃ m,m≤N∧h'=[rowB S m]) (s:=S0) (by omega) ?_ ?_ (by omega) ?_ ?_
 ·intro i S e h' Y R hi hlt hw ⟨hs,hS,m,hm,hh⟩ hk
  subst hh
  simp only [q06] at hk
  have hlt:decide ((i:Int) < t.nodes)=true:=by rw [← hNn]; exact hlt
  (repeat' first|simp only [il63l1_go,il63l1b,go_sem,hs,hlt]|with_reducible refine wX fun _=>?_|((with_reducible refine wY ?_ ?_); rfl)|fail)
  refine qij c1 c2 t h frm (by omega) node link (I (tgt:Nat)) (I (i:Nat)) N hNN.symm S hS m hm _ _ (by omega) _ _ (by simp only [go_sem,hs]) ?_
  intro e' m' hm' he'
  (repeat' first|simp only [il63l1_go,il63l1b,go_sem,he',hw]|with_reducible refine wX fun _=>?_|((with_reducible refine wY ?_ ?_); rfl)|fail)
  all_goals (refine hk _ _ ⟨?_,by rw [q6q]; exact hS,m',hm',rfl⟩; simp only [go_sem,he',hw])
 ·intro S e h' Y R hlt ⟨hs,hS,m,hm,hh⟩ hk
  subst hh
  have hlt:decide ((N:Int) < t.nodes)=false:=by rw [← hNn]; exact hlt
  (repeat' first|simp only [il63l1_go,il63l1b,go_sem,hs,hlt]|with_reducible refine wX fun _=>?_|((with_reducible refine wY ?_ ?_); rfl)|fail)
  all_goals (refine hk _ _ _ ⟨?_,rfl,m,hm,rfl⟩; simp only [go_sem,hs,id])
 ·refine ⟨?_,hS0,N,Nat.le_refl N,rfl⟩
  simp only [go_sem]
 ·intro x e h' ⟨h1,h2,m,hm,h3⟩
  have hfo:∀ (k i:Nat) (S:List Bool),foldC (ρ:=List Bool) (fun (_:Nat) (_:Unit) S=>Ctl.go (jrR t frm node link S)) id i (List.replicate k ()) S=(List.range' i k).foldl (fun S _=>jrR t frm node link S) S:=by
   intro k
   induction k with
   | zero=>intro i S; rfl
   | succ k ih=>intro i S; rw [List.replicate_succ,q0g (s':=jrR t frm node link S) rfl,ih,List.range'_succ]; rfl
  rw [hfo,← List.range_eq_range'] at h3
  generalize (List.range N).foldl (fun S _=>jrR t frm node link S) S0=S1 at *
  subst h2 h3
  have g:=q1Z (S:=S1) (n:=tgt) (by omega)
  have hlm:((S1.map B).map AV.t).length=N:=by simp [hlen]
  (repeat' first|simp only [il63c,go_sem,h1,g,hlm,ht,hm]|with_reducible refine wX fun _=>?_|((with_reducible refine wY ?_ ?_); rfl)|fail)
end
end Go.Proofs.Ytnjaokhdeaeegaa
namespace Go.Proofs.Ytnjaokhdeaeegaa
open Go Go.Abs
theorem q79 (q:Nat→Bool):∀ (k i:Nat),foldC (fun i (_:Unit) (_:Unit)=>if q i=true then Ctl.out (some i) else Ctl.go ()) (fun _=>none) i (List.replicate k ()) ()=(List.range' i k).find? q:=by
 intro k
 induction k with
 | zero=>intro i; rfl
 | succ k ih =>
  intro i
  rw [List.replicate_succ,List.range'_succ,List.find?_cons]
  cases hq:q i with
  | true=>rw [q0p (r:=some i) (by rw [hq,if_pos rfl])]
  | false=>rw [q0g (s':=()) (by rw [hq,if_neg (by simp)]),ih]
section
variable (c1 c2:Bool) (t:Tpo) (h:okT t=true)
include h
theorem q44 (a b:Nat) (ha:a < t.nodes.toNat) (hb:b < t.nodes.toNat):ans Try.prog pol 25 [tpT c1 c2 t,I (a:Nat),I (b:Nat)]=some (.tup [.agg [I (sepR t a b).1,I (sepR t a b).2.1],B (sepR t a b).2.2]):=by
 obtain ⟨z1,z2,z3⟩:=q0h h
 have hNn:((t.nodes.toNat:Nat):Int)=t.nodes:=by omega
 have kw:=fun node link=>qik c1 c2 t h a ha node link b hb
 have tC:List.take 3 (tpC c1 c2 t)=tpC c1 c2 t:=rfl
 have hsp:∀ n,spN t a b n=(!stA t n && (!decide (((n:Nat):Int)=(a:Nat)) && (!decide (((n:Nat):Int)=(b:Nat)) && !jnB (grT t) (stA t) a t.nodes.toNat (n:Nat) (-1) b))):=fun _=>rfl
 have hsl:∀ n,spL t a b n = !jnB (grT t) (stA t) a t.nodes.toNat (-1) (n:Nat) b:=fun _=>rfl
 have hgs:∀ n,n < t.nodes.toNat→(t.station.map B)[n]? = some (B (stA t n))∧n < t.station.length:=fun n hn=>⟨q1H t h hn,by omega⟩
 unfold sepR
 obtain ⟨nn,hnn⟩:∃ nn,2000 < nn:=⟨2001,by omega⟩
 refine q02 nn 1 il25_eq (Nat.le_of_ble_eq_true rfl) ?_
 (repeat' first|simp only [il25c,go_sem]|with_reducible refine wX fun _=>?_|((with_reducible refine wY ?_ ?_); rfl)|fail)
 refine q0G t.nodes.toNat (step:=fun i (_:Unit)=>if spN t a b i=true then Ctl.out (some i) else Ctl.go ()) (fin:=fun _=>none)
  (St:=fun i _ e h'=>(e 1=.t (I (a:Nat))∧e 2=.t (I (b:Nat))∧e 3=.t (.ip (tpC c1 c2 t))∧e 6=.ref 0 1 0 0∧e 8=.t (I (i:Nat)))∧h'=[.row 2 [.t (.agg [I 0,I 0])] 0])
  (Ex:=fun s x e h'=>(x=.exit 0∧s=none∧(e 1=.t (I (a:Nat))∧e 2=.t (I (b:Nat))∧e 3=.t (.ip (tpC c1 c2 t))∧e 6=.ref 0 1 0 0)∧h'=[.row 2 [.t (.agg [I 0,I 0])] 0])∨(x=.ret∧∃ i,s=some i∧e 6=.ref 0 1 0 0∧e 7=.t (B true)∧h'=[.row 2 [.t (.agg [I ((i:Nat):Int),I (-1)])] 1])) (s:=()) (by omega) ?_ ?_ (by omega) ?_ ?_
 ·intro i _ e h' Y R hi hlt hw ⟨hs,hh⟩ hk
  subst hh
  have hlt:decide ((i:Int) < t.nodes)=true:=by rw [← hNn]; exact hlt
  obtain ⟨gst,hst⟩:=hgs i hi
  have kj:=kw (i:Nat) (-1)
  rw [hsp] at hk
  generalize jnB (grT t) (stA t) a t.nodes.toNat ((i:Nat):Int) (-1) b=j at *
  generalize stA t i=s at *
  generalize hd1:decide (((i:Nat):Int)=(a:Nat))=d1 at *
  generalize hd2:decide (((i:Nat):Int)=(b:Nat))=d2 at *
  cases s <;> cases d1 <;> cases d2 <;> cases j
  all_goals simp only [Bool.not_true,Bool.not_false,Bool.true_and,Bool.false_and,Bool.and_true,Bool.and_false,Bool.false_eq_true,if_true,if_false,q06,q09] at hk
  all_goals ((repeat' first|simp only [il25l0_go,il25l0b,go_sem,hs,hlt,hw,gst,hst,kj,hd1,hd2,tC,List.length_map]|with_reducible refine wX fun _=>?_|((with_reducible refine wY ?_ ?_); rfl)|fail))
  all_goals first
   | (refine hk _ _ ⟨?_,rfl⟩; simp only [go_sem,hs,hw]; done)
   | (refine hk _ _ _ (.inr ⟨rfl,i,rfl,?_,?_,rfl⟩) <;> simp only [go_sem,hs])
 ·intro _ e h' Y R hlt ⟨hs,hh⟩ hk
  subst hh
  have hlt:decide (((t.nodes.toNat:Nat):Int) < t.nodes)=false:=by rw [hNn]; exact decide_eq_false (by omega)
  (repeat' first|simp only [il25l0_go,il25l0b,go_sem,hs,hlt]|with_reducible refine wX fun _=>?_|((with_reducible refine wY ?_ ?_); rfl)|fail)
  all_goals (refine hk _ _ _ (.inl ⟨rfl,rfl,?_,rfl⟩); simp only [go_sem,hs])
 ·refine ⟨?_,rfl⟩
  simp only [go_sem]
 ·intro x e h' hx
  rw [q79,← List.range_eq_range'] at hx
  rcases hx with ⟨rfl,hx,hs,hh⟩|⟨rfl,i,hx,h6,h7,hh⟩
  ·subst hh
   have hx:firstN (spN t a b) t.nodes.toNat=none:=hx
   rw [hx]
   (repeat' first|simp only [il25c,go_sem,hs]|with_reducible refine wX fun _=>?_|((with_reducible refine wY ?_ ?_); rfl)|fail)
   refine q0G t.links.length (step:=fun i (_:Unit)=>if spL t a b i=true then Ctl.out (some i) else Ctl.go ()) (fin:=fun _=>none)
    (St:=fun i _ e h'=>(e 1=.t (I (a:Nat))∧e 2=.t (I (b:Nat))∧e 3=.t (.ip (tpC c1 c2 t))∧e 6=.ref 0 1 0 0∧e 9=.t (I (i:Nat)))∧h'=[.row 2 [.t (.agg [I 0,I 0])] 0])
    (Ex:=fun s x e h'=>(x=.exit 2∧s=none∧(e 6=.ref 0 1 0 0)∧h'=[.row 2 [.t (.agg [I 0,I 0])] 0])∨(x=.ret∧∃ i,s=some i∧e 6=.ref 0 1 0 0∧e 7=.t (B true)∧h'=[.row 2 [.t (.agg [I (-1),I ((i:Nat):Int)])] 1])) (s:=()) (by omega) ?_ ?_ (by omega) ?_ ?_
   ·intro i _ e h' Y R hi hlt hw ⟨hs,hh⟩ hk
    subst hh
    have kj:=kw (-1) (i:Nat)
    rw [hsl] at hk
    generalize jnB (grT t) (stA t) a t.nodes.toNat (-1) ((i:Nat):Int) b=j at *
    cases j
    all_goals simp only [Bool.not_true,Bool.not_false,Bool.false_eq_true,if_true,if_false,q06,q09] at hk
    all_goals ((repeat' first|simp only [il25l1_go,il25l1b,go_sem,hs,hlt,hw,kj,tC,List.length_map]|with_reducible refine wX fun _=>?_|((with_reducible refine wY ?_ ?_); rfl)|fail))
    all_goals first
     | (refine hk _ _ ⟨?_,rfl⟩; simp only [go_sem,hs,hw]; done)
     | (refine hk _ _ _ (.inr ⟨rfl,i,rfl,?_,?_,rfl⟩) <;> simp only [go_sem,hs])
   ·intro _ e h' Y R hlt ⟨hs,hh⟩ hk
    subst hh
    (repeat' first|simp only [il25l1_go,il25l1b,go_sem,hs,hlt,List.length_map]|with_reducible refine wX fun _=>?_|((with_reducible refine wY ?_ ?_); rfl)|fail)
    all_goals (refine hk _ _ _ (.inl ⟨rfl,rfl,?_,rfl⟩); simp only [go_sem,hs])
   ·refine ⟨?_,rfl⟩
    simp only [go_sem,hs]
   ·intro x e h' hx
    rw [q79,← List.range_eq_range'] at hx
    rcases hx with ⟨rfl,hx,h6,hh⟩|⟨rfl,i,hx,h6,h7,hh⟩
    ·subst hh
     have hx:firstN (spL t a b) t.links.length=none:=hx
     rw [hx]
     (repeat' first|simp only [il25c,go_sem,h6]|with_reducible refine wX fun _=>?_|((with_reducible refine wY ?_ ?_); rfl)|fail)
    ·subst hh
     have hx:firstN (spL t a b) t.links.length=some i:=hx
     rw [hx]
     (repeat' first|simp only [il25c,go_sem,h6,h7]|with_reducible refine wX fun _=>?_|((with_reducible refine wY ?_ ?_); rfl)|fail)
  ·subst hh
   have hx:firstN (spN t a b) t.nodes.toNat=some i:=hx
   rw [hx]
   (repeat' first|simp only [il25c,go_sem,h6,h7]|with_reducible refine wX fun _=>?_|((with_reducible refine wY ?_ ?_); rfl)|fail)
end
end Go.Proofs.Ytnjaokhdeaeegaa
namespace Go.Proofs.Ytnjaokhdeaeegaa
open Go Go.Abs
def qB (G:Gr) (V W:List Nat) (most:Nat) (r:List Nat):Bool:=decide (r.length≤most) && (r.all (fun p=>!decide (p / 2∈W)) && r.dropLast.all (fun q=>!decide (G.to q∈V)))
theorem qil {G:Gr} {V W:List Nat} {most:Nat} {r:List Nat}:qB G V W most r=true↔r.length≤most∧avP G (fun n=>decide (n∈V)) (fun l=>decide (l∈W)) r:=by
 simp only [qB,Bool.and_eq_true,decide_eq_true_eq,List.all_eq_true,Bool.not_eq_true',avP]
theorem q7a {t:Tpo} (h:okT t=true) (a b:Nat) (V W:List Nat) {most:Nat} (hm:most≤8):dp (grT t) (avA t a V W) most b=pickL (grT t) (qB (grT t) V W most) (routesL (grT t) (stA t) a b) :=
 q9t (gr_w h) (gr_x h) hm (fun r=>qil)
def meshT:Tpo:=⟨5,[false,false,false,true,true],[⟨0,1,1,5⟩,⟨1,2,1,5⟩,⟨0,2,1,20⟩,⟨3,0,1,0⟩,⟨3,1,1,0⟩,⟨4,2,1,0⟩]⟩
theorem qim:okT meshT=true:=by decide +kernel
theorem qin:ans Try.prog pol 33 []=some (tpT true true meshT):=q8K (n:=10) 3 (by kernel_rfl)
theorem ex1:pickL (grT meshT) (qB (grT meshT) [] [] 8) (routesL (grT meshT) (stA meshT) 3 4)=[8,2,11]:=by decide +kernel
theorem ex2:pickL (grT meshT) (qB (grT meshT) [1] [] 8) (routesL (grT meshT) (stA meshT) 3 4)=[6,4,11]:=by decide +kernel
theorem ex3:pairR (grT meshT) (routesL (grT meshT) (stA meshT) 3 2)=([8,2],[6,4]):=by decide +kernel
theorem ex4:pairR (grT meshT) (routesL (grT meshT) (stA meshT) 3 4)=([],[]):=by decide +kernel
theorem ex5:sepR meshT 3 4=(2,-1,true):=by decide +kernel
end Go.Proofs.Ytnjaokhdeaeegaa
namespace Go.Proofs.Ytnjaokhdeaeegaa
open Go Go.Abs
theorem qio (c c':Bool) (a b:List (Int)) (hl:a.length≤1000000):ans Try.prog pol 17 [.sl c 1 (a.map I),.sl c' 1 (b.map I)]=some (B (decide (a=b))):=by
 refine q02 (a.length+1) 1 il17_eq (Nat.le_of_ble_eq_true rfl) ?_
 by_cases hlen:a.length=b.length
 ·have d0:decide ((a.length:Int)=(b.length:Int))=true:=decide_eq_true (by omega)
  (repeat' first|simp only [il17c,go_sem,d0]|with_reducible refine wX fun _=>?_|((with_reducible refine wY ?_ ?_); rfl)|fail)
  refine q0k a I (step:=fun i x (_:Unit)=>if b[i]? = some x then Ctl.go () else Ctl.out false) (fin:=fun _=>true) (St:=fun i s e h=>h=[]∧e 0=.t (.sl c 1 (a.map I))∧e 1=.t (.sl c' 1 (b.map I))∧e 12=.t (I (a.length:Nat))∧e 13=.t (I (i:Nat)))
   (Ex:=fun r x e h=>r=true∧x=.exit 0∨r=false∧x=.ret∧e 4=.t (B false)) (s:=()) (by omega) ?_ ?_ (by omega) ?_ ?_
  ·intro i x s e h Y R hm hi hx hget hlt hw ⟨h0,hs⟩ hk
   subst h0
   obtain ⟨y,hy⟩:∃ y,b[i]? = some y:=⟨b[i],by simp⟩
   have hgb:(b.map I)[i]? = some (I y):=by simp [hy]
   by_cases hxy:x=y
   ·have hd:(decide (x=y))=true:=decide_eq_true hxy
    simp only [hy,hxy,if_true,q06] at hk
    (repeat' first|simp only [il17l0_go,il17l0b,go_sem,hs,hget,hgb,hlt,hw,hd]|with_reducible refine wX fun _=>?_|((with_reducible refine wY ?_ ?_); rfl)|fail)
    all_goals (refine hk _ _ ?_; simp only [go_sem,hs,hw])
   ·have hd:(decide (x=y))=false:=decide_eq_false hxy
    rw [if_neg (by rw [hy]; intro h; exact hxy (Option.some.inj h).symm),q09] at hk
    (repeat' first|simp only [il17l0_go,il17l0b,go_sem,hs,hget,hgb,hlt,hw,hd]|with_reducible refine wX fun _=>?_|((with_reducible refine wY ?_ ?_); rfl)|fail)
    all_goals (refine hk _ _ _ (.inr ?_); simp only [go_sem])
  ·intro s e h Y R hlt ⟨h0,hs⟩ hk
   subst h0
   (repeat' first|simp only [il17l0_go,il17l0b,go_sem,hs,hlt]|with_reducible refine wX fun _=>?_|((with_reducible refine wY ?_ ?_); rfl)|fail)
   all_goals (refine hk _ _ _ (.inl ?_); simp only [go_sem])
  ·simp only [go_sem]
  ·intro x e h hx
   rw [qg2 b a 0 b (by simp) hlen] at hx
   rcases hx with ⟨hx,rfl⟩|⟨hx,rfl,e4⟩
   ·(repeat' first|simp only [il17c,go_sem,hx]|with_reducible refine wX fun _=>?_|((with_reducible refine wY ?_ ?_); rfl)|fail)
   ·(repeat' first|simp only [il17c,go_sem,e4,hx]|with_reducible refine wX fun _=>?_|((with_reducible refine wY ?_ ?_); rfl)|fail)
 ·have d0:decide ((a.length:Int)=(b.length:Int))=false:=decide_eq_false (by omega)
  have d1:decide (a=b)=false:=decide_eq_false (fun h=>hlen (by rw [h]))
  (repeat' first|simp only [il17c,go_sem,d0,d1]|with_reducible refine wX fun _=>?_|((with_reducible refine wY ?_ ?_); rfl)|fail)
theorem q2J (c c':Bool) (a b:List Nat) (hl:a.length≤1000):ans Try.prog pol 17 [.sl c 1 (ptL a),.sl c' 1 (ptL b)]=some (B (decide (a=b))):=by
 have h:=qio c c' (a.map ofN) (b.map ofN) (by rw [List.length_map]; omega)
 have e:decide (a.map ofN=b.map ofN)=decide (a=b):=by
  rw [Bool.eq_iff_iff,decide_eq_true_eq,decide_eq_true_eq]
  exact ⟨fun h=>List.map_inj_right (fun x y h=>by have h:((x:Nat):Int)=((y:Nat):Int):=h; omega) |>.1 h,fun h=>by rw [h]⟩
 rw [e] at h
 exact h
theorem qip:ans Try.prog pol 10 []=some (B true):=by
 have hok:=qim
 have e34:endP meshT 3 4:=by decide +kernel
 have e32:endP meshT 3 2:=by decide +kernel
 have kM:=qin
 have k1:ans Try.prog pol 12 [tpT true true meshT,I 3,I 4,.agg [nilT,nilT],I 8]=some (.tup [.sl false 1 (ptL [8,2,11]),I 0]):=by
  have k:=q77 true true meshT hok 3 4 e34 q41 q41 (by simp) (by simp) 8
  have e:lsA meshT 3 4 [] [] 8=.tup [rgT [8,2,11],I 0]:=by
   unfold lsA
   rw [if_pos (by decide +kernel),show (8:Int).toNat=8 from rfl,List.map_nil,q7a hok 3 4 [] [] (Nat.le_refl 8),ex1]; rfl
  rw [e] at k
  exact k
 have k2:ans Try.prog pol 12 [tpT true true meshT,I 3,I 4,.agg [.sl true 1 [I 1],nilT],I 8]=some (.tup [.sl false 1 (ptL [6,4,11]),I 0]):=by
  have k:=q77 true true meshT hok 3 4 e34 (qic (c:=true) (N:=[1])) q41 (by simp) (by simp) 8
  have e:lsA meshT 3 4 [1] [] 8=.tup [rgT [6,4,11],I 0]:=by
   unfold lsA
   rw [if_pos (by decide +kernel),show (8:Int).toNat=8 from rfl,List.map_nil,show List.map Int.toNat [1]=[1] from rfl,q7a hok 3 4 [1] [] (Nat.le_refl 8),ex2]; rfl
  rw [e] at k
  exact k
 have k3:ans Try.prog pol 20 [tpT true true meshT,.sl false 1 (ptL [8,2,11])]=some (.tup [I 8,I 0]):=by
  have k:=q78 true true false meshT hok [8,2,11] (by simp)
  have hv:vldB meshT [8,2,11]=true:=by
   rw [q1c]
   refine ⟨by decide,by decide +kernel,?_⟩
   rw [qie hok _ (by simp) (by unfold ptP; decide +kernel)]
   have hm:[8,2,11]∈routesL (grT meshT) (stA meshT) 3 4:=by decide +kernel
   obtain ⟨w,nd,_⟩:=(q1V (gr_x hok)).1 hm
   have e1:begN meshT (List.map Int.toNat [8,2,11])=3:=by decide +kernel
   have e2:atE (grT meshT) 0 (List.map Int.toNat [8,2,11])=4:=by decide +kernel
   unfold vlR
   rw [e1,e2]
   exact ⟨w,nd⟩
  have e:csA meshT [8,2,11]=.tup [I 8,I 0]:=by
   unfold csA
   rw [if_pos hv,show gw (grT meshT) (List.map Int.toNat [8,2,11])=8 by decide +kernel]
  rw [e] at k
  exact k
 have k4:ans Try.prog pol 18 [tpT true true meshT,I 3,I 2]=some (.tup [.sl false 1 (ptL [8,2]),.sl false 1 (ptL [6,4]),I 0]):=by
  have k:=q70 true true meshT hok 3 2 e32
  rw [ex3] at k
  exact k
 have k5:ans Try.prog pol 18 [tpT true true meshT,I 3,I 4]=some (.tup [nilT,nilT,I 4]):=by
  have k:=q70 true true meshT hok 3 4 e34
  rw [ex4] at k
  exact k
 have k6:ans Try.prog pol 24 [tpT true true meshT,I 3,I 4]=some (.tup [.agg [I 2,I (-1)],B true,I 0]):=by
  have k:=q2C true true meshT 3 4 hok e34
  rw [ex5] at k
  exact k
 have q1:ans Try.prog pol 17 [.sl false 1 (ptL [8,2,11]),.sl true 1 [I 8,I 2,I 11]]=some (B true):=q2J false true [8,2,11] [8,2,11] (by simp)
 have q2:ans Try.prog pol 17 [.sl false 1 (ptL [6,4,11]),.sl true 1 [I 6,I 4,I 11]]=some (B true):=q2J false true [6,4,11] [6,4,11] (by simp)
 have q3:ans Try.prog pol 17 [.sl false 1 (ptL [8,2]),.sl true 1 [I 8,I 2]]=some (B true):=q2J false true [8,2] [8,2] (by simp)
 have q4:ans Try.prog pol 17 [.sl false 1 (ptL [6,4]),.sl true 1 [I 6,I 4]]=some (B true):=q2J false true [6,4] [6,4] (by simp)
 generalize ptL [8,2,11]=P1 at *
 generalize ptL [6,4,11]=P2 at *
 generalize ptL [8,2]=P3 at *
 generalize ptL [6,4]=P4 at *
 have tT:∀ t:Tpo,List.take 3 (tpC true true t)=tpC true true t:=fun _=>rfl
 refine q02 10 1 il10_eq (Nat.le_of_ble_eq_true rfl) ?_
 generalize meshT=M at *
 (repeat' first|simp only [il10c,go_sem,kM,k1,k2,k3,k4,k5,k6,q1,q2,q3,q4,tT]|with_reducible refine wX fun _=>?_|((with_reducible refine wY ?_ ?_); rfl)|fail)
 all_goals done
end Go.Proofs.Ytnjaokhdeaeegaa
namespace Go.Proofs.Ytnjaokhdeaeegaa
open Go Go.Abs
theorem qiq (n:Nat):ans Try.prog pol 55 [.sc (.slice none 0 0),I (n:Nat)]=some (B false):=by
 refine q02 10 1 il55_eq (Nat.le_of_ble_eq_true rfl) ?_
 (repeat' first|simp only [il55c,go_sem]|with_reducible refine wX fun _=>?_|((with_reducible refine wY ?_ ?_); rfl)|((with_reducible refine q0W (body:=wc _ _ _ _ _ _ il55l0) ?_ ?_); exact Nat.le_of_ble_eq_true rfl; simp only [il55l0_go,il55l0b])|fail)
theorem q7b {l:List Bool} {n:Nat} (h:l[n]? = some true):l.set n true=l:=by
 refine List.ext_getElem? (fun m=>?_)
 by_cases e:n=m
 ·subst e; rw [List.getElem?_set_self (List.getElem?_eq_some_iff.1 h).1,h]
 ·rw [List.getElem?_set_ne e]
theorem qir {i:Nat} {r:List Bool} {l:Lk} (ha:l.a.toNat < r.length) (hb:l.b.toNat < r.length) :
  rStep (fun _=>false) i r l=if (rB r l.a || rB r l.b)=true then (r.set l.a.toNat true).set l.b.toNat true else r:=by
 unfold rStep
 cases h1:rB r l.a <;> cases h2:rB r l.b
 ·rfl
 ·rfl
 ·rfl
 ·simp only [Bool.not_false,Bool.true_and,bne_self_eq_false,Bool.false_eq_true,if_false,Bool.or_self,if_true]
  have e1:r[l.a.toNat]? = some true:=by rw [rB,List.getElem?_eq_getElem ha] at h1; rw [List.getElem?_eq_getElem ha]; exact congrArg some h1
  have e2:r[l.b.toNat]? = some true:=by rw [rB,List.getElem?_eq_getElem hb] at h2; rw [List.getElem?_eq_getElem hb]; exact congrArg some h2
  rw [q7b e1,q7b e2]
theorem qis (t:Tpo) (hv:∀ l∈t.links,endsP t l) (hb:t.links.length≤24) (c1 c2:Bool) (N:Nat) (hN:(N:Int)=t.nodes) (x8:T) (r:List Bool) (hr:r.length=N) (mr:Nat) (hmr:mr≤N)
  (J:Inl) (nn:Nat) (hn:100 < nn) (R:Xit→FEnv→Heap→Prop) (e:FEnv)
  (he:e 2=.t (.sc (.slice none 0 0))∧e 3=.t (.ip (tpC c1 c2 t))∧e 7=.ms 0 N 0 N 1 true∧e 8=.t x8∧e 9=.t (I 0))
  (hR:∀ e mr,mr≤N→(e 2=.t (.sc (.slice none 0 0))∧e 3=.t (.ip (tpC c1 c2 t))∧e 7=.ms 0 N 0 N 1 true∧e 8=.t x8)→R (.exit 2) e [.row 1 (((rRound (fun _=>false) 0 t.links r).map B).map .t) mr]) :
  wpIter 1 (some [2,3,7,8,9]) (wc Try.prog pol (ans Try.prog pol) J nn 53 il53l0) R nn e [.row 1 ((r.map B).map .t) mr]:=by
 have hst:∀ (r:List Bool) (n:Nat),(((r.map B).map AV.t).set n (.t (B true)))=((r.set n true).map B).map .t:=fun r n=>map_set (enc:=B)
 refine q0k t.links encK (step:=fun i l r=>.go (rStep (fun _=>false) i r l)) (fin:=id)
  (St:=fun i r e h=>(e 2=.t (.sc (.slice none 0 0))∧e 3=.t (.ip (tpC c1 c2 t))∧e 7=.ms 0 N 0 N 1 true∧e 8=.t x8∧e 9=.t (I (i:Nat)))∧r.length=N∧∃ mr,mr≤N∧h=[.row 1 ((r.map B).map .t) mr])
  (Ex:=fun r x e h=>(e 2=.t (.sc (.slice none 0 0))∧e 3=.t (.ip (tpC c1 c2 t))∧e 7=.ms 0 N 0 N 1 true∧e 8=.t x8)∧x=.exit 2∧∃ mr,mr≤N∧h=[.row 1 ((r.map B).map .t) mr]) (s:=r) (by omega) ?_ ?_ (by omega) ⟨he,hr,mr,hmr,rfl⟩ ?_
 ·intro i l r e h Y R hm hi hx hget hlt hw ⟨hs,hr,mr,hmr,hh⟩ hk
  subst hh
  simp only [q06] at hk
  obtain ⟨p1,p2,p3⟩:=hv l hm
  have q1:0≤l.a:=p1.1
  have q2:0≤l.b:=p2.1
  have q3:l.a.toNat < N:=by omega
  have q4:l.b.toNat < N:=by omega
  have k1:=qiq i
  have gx:(t.links.map encK)[i]? = some (lkT l):=hget
  have g1:=q1D (r:=r) (n:=l.a) (by omega)
  have g2:=q1D (r:=r) (n:=l.b) (by omega)
  rw [qir (by omega) (by omega)] at hk
  have hl1:(r.set l.a.toNat true).length=N:=by simpa using hr
  have hl2:((r.set l.a.toNat true).set l.b.toNat true).length=N:=by simpa using hr
  have s1:=hst r l.a.toNat
  have s2:=hst (r.set l.a.toNat true) l.b.toNat
  have g3:=q1D (r:=r.set l.a.toNat true) (n:=l.b) (by rw [hl1]; exact q4)
  generalize rB (r.set l.a.toNat true) l.b=z at *
  generalize r.set l.a.toNat true=r1 at *
  generalize r1.set l.b.toNat true=r2 at *
  generalize rB r l.a=a at *
  generalize rB r l.b=b at *
  cases a with
  | true =>
   simp only [Bool.true_or,if_true] at hk
   (repeat' first|simp only [il53l0_go,il53l0b,go_sem,hs,gx,hlt,hw,k1,q1,q2,q3,q4,g1,g2,g3,s1,s2,hr,hl1,hl2,hmr]|with_reducible refine wX fun _=>?_|((with_reducible refine wY ?_ ?_); rfl)|fail)
   all_goals (refine hk _ _ ⟨?_,hl2,N,Nat.le_refl _,?_⟩ <;> simp only [go_sem,hs,hw])
  | false =>
   cases b with
   | true =>
    simp only [Bool.false_or,if_true] at hk
    (repeat' first|simp only [il53l0_go,il53l0b,go_sem,hs,gx,hlt,hw,k1,q1,q2,q3,q4,g1,g2,g3,s1,s2,hr,hl1,hl2,hmr]|with_reducible refine wX fun _=>?_|((with_reducible refine wY ?_ ?_); rfl)|fail)
    all_goals (refine hk _ _ ⟨?_,hl2,N,Nat.le_refl _,?_⟩ <;> simp only [go_sem,hs,hw])
   | false =>
    simp only [Bool.or_self,Bool.false_eq_true,if_false] at hk
    (repeat' first|simp only [il53l0_go,il53l0b,go_sem,hs,gx,hlt,hw,k1,q1,q2,q3,q4,g1,g2,hr,hmr]|with_reducible refine wX fun _=>?_|((with_reducible refine wY ?_ ?_); rfl)|fail)
    all_goals (refine hk _ _ ⟨?_,hr,mr,hmr,?_⟩ <;> simp only [go_sem,hs,hw])
 ·intro r e h Y R hlt ⟨hs,hr,mr,hmr,hh⟩ hk
  subst hh
  (repeat' first|simp only [il53l0_go,il53l0b,go_sem,hs,hlt]|with_reducible refine wX fun _=>?_|((with_reducible refine wY ?_ ?_); rfl)|fail)
  all_goals (refine hk _ _ _ ⟨?_,rfl,mr,hmr,rfl⟩; simp only [go_sem,hs,id])
 ·intro x e h ⟨h1,h2,mr,hmr,h3⟩
  subst h2 h3
  have hf:∀ (ls:List Lk) (i:Nat) (r:List Bool),foldC (ρ:=List Bool) (fun i l r=>Ctl.go (rStep (fun _=>false) i r l)) id i ls r=rRound (fun _=>false) i ls r:=by
   intro ls
   induction ls with
   | nil=>intro i r; rfl
   | cons l ls ih=>intro i r; rw [q0g (s':=rStep (fun _=>false) i r l) rfl,ih]; rfl
  rw [hf] at *
  exact hR _ mr hmr h1
theorem qit (c1 c2:Bool) (t:Tpo) (hv:∀ l∈t.links,endsP t l) (hb:t.links.length≤24) (hn:0≤t.nodes∧t.nodes≤100) (s:Nat) (hs:(s:Int) < t.nodes) :
  ans Try.prog pol 53 [tpT c1 c2 t,I (s:Nat),.sc (.slice none 0 0)]=some (.sl true 1 ((reachL t s (fun _=>false)).map B)):=by
 obtain ⟨nodes,station,links⟩:=t
 dsimp only at hv hb hn hs
 obtain ⟨N,rfl⟩:∃ N:Nat,nodes=(N:Int):=⟨nodes.toNat,by omega⟩
 have hNn:((N:Nat):Int).toNat=N:=by omega
 have hsN:s < N:=by omega
 have hroom:1*N≤roomB:=by rw [Nat.mul_comm]; exact q16 (by omega) (by omega)
 have hbig:N≤9223372036854775807:=by omega
 have hlen:=q2y ⟨N,station,links⟩ s (fun _=>false)
 dsimp only at hlen
 rw [hNn] at hlen
 simp only [reachL,hNn] at hlen ⊢
 have hset:=map_set (enc:=B) (l:=List.replicate N false) (i:=s) (x:=true)
 simp only [List.map_replicate] at hset
 have hs0:((List.replicate N (AV.t (B false))))[s]? = some (.t (B false)):=by simp [hsN]
 have hl0:((List.replicate N false).set s true).length=N:=by simp
 generalize hr0:(List.replicate N false).set s true=r0 at *
 clear hr0
 refine q02 1000 1 il53_eq (Nat.le_of_ble_eq_true rfl) ?_
 (repeat' first|simp only [il53c,go_sem,hroom,hbig,hsN,hs0,hset,List.length_replicate]|with_reducible refine wX fun _=>?_|((with_reducible refine wY ?_ ?_); rfl)|fail)
 refine q0G N (step:=fun i r=>.go (rRound (fun _=>false) 0 links r)) (fin:=id)
  (St:=fun i r e h=>(e 2=.t (.sc (.slice none 0 0))∧e 3=.t (.ip (tpC c1 c2 ⟨N,station,links⟩))∧e 7=.ms 0 N 0 N 1 true∧e 8=.t (I (i:Nat)))∧r.length=N∧∃ mr,mr≤N∧h=[.row 1 ((r.map B).map .t) mr])
  (Ex:=fun r x e h=>e 7=.ms 0 N 0 N 1 true∧r.length=N∧x=.exit 0∧∃ mr,mr≤N∧h=[.row 1 ((r.map B).map .t) mr]) (s:=r0) (by omega) ?_ ?_ (by omega) ?_ ?_
 ·intro i r e h Y R hi hlt hw ⟨hs',hr,mr,hmr,hh⟩ hk
  subst hh
  simp only [q06] at hk
  (repeat' first|simp only [il53l1_go,il53l1b,go_sem,hs',hlt]|with_reducible refine wX fun _=>?_|((with_reducible refine wY ?_ ?_); rfl)|fail)
  refine qis ⟨N,station,links⟩ hv hb c1 c2 N rfl (I (i:Nat)) r hr mr hmr _ _ (by omega) _ _ (by simp only [go_sem,hs']) ?_
  intro e' mr' hmr' he'
  (repeat' first|simp only [il53l1_go,il53l1b,go_sem,he',hw]|with_reducible refine wX fun _=>?_|((with_reducible refine wY ?_ ?_); rfl)|fail)
  all_goals (refine hk _ _ ⟨?_,by rw [q3D]; exact hr,mr',hmr',rfl⟩; simp only [go_sem,he',hw])
 ·intro r e h Y R hlt ⟨hs',hr,mr,hmr,hh⟩ hk
  subst hh
  (repeat' first|simp only [il53l1_go,il53l1b,go_sem,hs',hlt]|with_reducible refine wX fun _=>?_|((with_reducible refine wY ?_ ?_); rfl)|fail)
  all_goals (refine hk _ _ _ ⟨?_,hr,rfl,mr,hmr,rfl⟩; simp only [go_sem,hs'])
 ·refine ⟨?_,hl0,N,Nat.le_refl _,rfl⟩
  simp only [go_sem]
 ·intro x e h ⟨h1,hr,h2,mr,hmr,h3⟩
  have hf:∀ (n i:Nat) (r:List Bool),foldC (ρ:=List Bool) (fun (_:Nat) (_:Unit) r=>Ctl.go (rRound (fun _=>false) 0 links r)) id i (List.replicate n ()) r=rIter (fun _=>false) links n r:=by
   intro n
   induction n with
   | zero=>intro i r; rfl
   | succ n ih=>intro i r; rw [List.replicate_succ,q0g (s':=rRound (fun _=>false) 0 links r) rfl,ih]; rfl
  rw [hf] at hr h3
  subst h2 h3
  (repeat' first|simp only [il53c,go_sem,h1,hr,hmr]|with_reducible refine wX fun _=>?_|((with_reducible refine wY ?_ ?_); rfl)|fail)
end Go.Proofs.Ytnjaokhdeaeegaa
namespace Go.Proofs.Ytnjaokhdeaeegaa
open Go Go.Abs
theorem qiu (l m:Lk):decide (m.a=l.a∧m.b=l.b∨m.a=l.b∧m.b=l.a)=joins l m:=by
 unfold joins
 refine decide_eq_decide.2 ⟨?_,?_⟩
 ·rintro (⟨h1,h2⟩|⟨h1,h2⟩)
  ·exact .inl ⟨h1.symm,h2.symm⟩
  ·exact .inr ⟨h2.symm,h1.symm⟩
 ·rintro (⟨h1,h2⟩|⟨h1,h2⟩)
  ·exact .inl ⟨h1.symm,h2.symm⟩
  ·exact .inr ⟨h2.symm,h1.symm⟩
theorem qiv {t:Tpo} {l:Lk}:∀ i,i≤t.links.length→lk3 t i l=(List.range i).all (fun k=>!joins l (lnk t k)):=by
 intro i
 induction i with
 | zero=>intro _; simp [lk3]
 | succ i ih =>
  intro hi
  have h1:=ih (by omega)
  unfold lk3 at h1 ⊢
  have e:t.links.take (i+1)=t.links.take i++[lnk t i]:=by
   rw [List.take_add_one]; simp [lnk,show i < t.links.length by omega]
  rw [e,List.all_append,h1,List.range_succ,List.all_append]
  rfl
theorem foldC_all {f:Nat→Bool}:∀ (n i:Nat),foldC (ρ:=Bool) (fun k (_:Unit) (_:Unit)=>if f k=true then Ctl.go () else Ctl.out false) (fun _=>true) i (List.replicate n ()) ()=(List.range' i n).all f:=by
 intro n
 induction n with
 | zero=>intro i; rfl
 | succ n ih =>
  intro i
  rw [List.replicate_succ,List.range'_succ,List.all_cons]
  by_cases h:f i=true
  ·rw [q0g (s':=()) (if_pos h),ih,h,Bool.true_and]
  ·rw [q0p (r:=false) (if_neg h)]
   have:f i=false:=by simpa using h
   rw [this,Bool.false_and]
theorem qiw (t:Tpo) (hb:t.links.length≤24) (c1 c2:Bool) (N:Nat) (i:Nat) (hi:i≤t.links.length) (l:Lk) (m:List Int) (mr:Nat)
  (J:Inl) (nn:Nat) (hn:100 < nn) (R:Xit→FEnv→Heap→Prop) (e:FEnv)
  (he:e 1=.t (.ip (tpC c1 c2 t))∧e 3=.ms 0 N 0 N 1 true∧e 4=.t (I (i:Nat))∧e 5=.ref 1 1 0 0∧e 6=.t (I 0))
  (hR1:lk3 t i l=true→∀ e,(e 1=.t (.ip (tpC c1 c2 t))∧e 3=.ms 0 N 0 N 1 true∧e 4=.t (I (i:Nat))∧e 5=.ref 1 1 0 0)→R (.exit 2) e [.row 1 ((m.map I).map .t) mr,.row 4 [.t (lkT l)] 1])
  (hR2:lk3 t i l=false→∀ e hh,e 2=.t (B false)→R .ret e hh) :
  wpIter 2 (some [1,3,4,5,6]) (wc Try.prog pol (ans Try.prog pol) J nn 21 il21l0) R nn e [.row 1 ((m.map I).map .t) mr,.row 4 [.t (lkT l)] 1]:=by
 refine q0G i (step:=fun k (_:Unit)=>if (!joins l (lnk t k))=true then Ctl.go () else Ctl.out false) (fin:=fun _=>true)
  (St:=fun k _ e h=>(e 1=.t (.ip (tpC c1 c2 t))∧e 3=.ms 0 N 0 N 1 true∧e 4=.t (I (i:Nat))∧e 5=.ref 1 1 0 0∧e 6=.t (I (k:Nat)))∧h=[.row 1 ((m.map I).map .t) mr,.row 4 [.t (lkT l)] 1])
  (Ex:=fun r x e h=>(r=true∧x=.exit 2∧(e 1=.t (.ip (tpC c1 c2 t))∧e 3=.ms 0 N 0 N 1 true∧e 4=.t (I (i:Nat))∧e 5=.ref 1 1 0 0)∧h=[.row 1 ((m.map I).map .t) mr,.row 4 [.t (lkT l)] 1])∨(r=false∧x=.ret∧e 2=.t (B false))) (s:=()) (by omega) ?_ ?_ (by omega) ⟨he,rfl⟩ ?_
 ·intro k _ e h Y R' hk1 hlt hw ⟨hs,hh⟩ hk
  subst hh
  have gx:(t.links.map encK)[k]? = some (lkT (lnk t k)):=by simp [lnk,show k < t.links.length by omega,encK]
  have k1:=qgs (lnk t k) l.a l.b
  rw [qiu] at k1
  generalize joins l (lnk t k)=jb at *
  generalize lnk t k=x at *
  cases jb with
  | true =>
   rw [if_neg (by simp),q09] at hk
   (repeat' first|simp only [il21l0_go,il21l0b,go_sem,hs,gx,hlt,k1]|with_reducible refine wX fun _=>?_|((with_reducible refine wY ?_ ?_); rfl)|fail)
   all_goals (refine hk _ _ _ (.inr ⟨rfl,rfl,?_⟩); simp only [go_sem])
  | false =>
   rw [if_pos (by simp),q06] at hk
   (repeat' first|simp only [il21l0_go,il21l0b,go_sem,hs,gx,hlt,hw,k1]|with_reducible refine wX fun _=>?_|((with_reducible refine wY ?_ ?_); rfl)|fail)
   all_goals (refine hk _ _ ⟨?_,rfl⟩; simp only [go_sem,hs,hw])
 ·intro _ e h Y R' hlt ⟨hs,hh⟩ hk
  subst hh
  (repeat' first|simp only [il21l0_go,il21l0b,go_sem,hs,hlt]|with_reducible refine wX fun _=>?_|((with_reducible refine wY ?_ ?_); rfl)|fail)
  all_goals (refine hk _ _ _ (.inl ⟨rfl,rfl,?_,rfl⟩); simp only [go_sem,hs])
 ·intro x e h hx
  rw [foldC_all,← List.range_eq_range',← qiv i hi] at hx
  rcases hx with ⟨h1,rfl,h2,rfl⟩|⟨h1,rfl,h2⟩
  ·exact hR1 h1 _ h2
  ·exact hR2 h1 _ _ h2
def rgOk (t:Tpo) (i:Nat) (l:Lk):Bool:=lkR t l && lk3 t i l
theorem q7c (t:Tpo) (i:Nat) (l:Lk):rgOk t i l=lkOk t i l:=by
 unfold rgOk lkR lkOk
 cases lk1 t l <;> cases lk2 t l <;> cases lk3 t i l <;> cases lk4 l <;> rfl
theorem qix {t:Tpo}:∀ (ls:List Lk) (i:Nat) (m:List Int),(∀ k,k < ls.length→ls[k]? = t.links[i+k]?)→foldC (ρ:=Option (List Int)) (fun i l m=>if rgOk t i l=true then Ctl.go (dStep m l) else Ctl.out none) some i ls m=if (List.range' i ls.length).all (fun k=>lkOk t k (lnk t k))=true then some (ls.foldl dStep m) else none:=by
 intro ls
 induction ls with
 | nil=>intro i m _; rfl
 | cons l ls ih =>
  intro i m h
  have h0:lnk t i=l:=by
   have:=h 0 (by simp)
   simp only [List.getElem?_cons_zero,Nat.add_zero] at this
   rw [lnk,← this]; rfl
  have ih:=ih (i+1) (dStep m l) (fun k hk=>by
   have:=h (k+1) (by simpa using hk)
   rw [List.getElem?_cons_succ] at this
   rw [this]; congr 1; omega)
  rw [List.length_cons,List.range'_succ,List.all_cons,h0,List.foldl_cons]
  by_cases q:rgOk t i l=true
  ·rw [q0g (s':=dStep m l) (if_pos q),ih]
   rw [q7c] at q
   rw [q,Bool.true_and]
  ·rw [q0p (r:=none) (if_neg q)]
   rw [q7c] at q
   have q:lkOk t i l=false:=by simpa using q
   rw [q,Bool.false_and]
   rfl
theorem qiy (t:Tpo) (hz:(t.station.length:Int)=t.nodes) (hb:t.links.length≤24) (c1 c2:Bool) (N:Nat) (hN:(N:Int)=t.nodes) (nn dd:Nat) (hn:100 < nn) (R:Xit→FEnv→Heap→Prop) (e:FEnv)
  (he:e 1=.t (.ip (tpC c1 c2 t))∧e 3=.ms 0 N 0 N 1 true∧e 4=.t (I 0))
  (hR1:soundL t=true→∀ e mr,mr≤N→(e 1=.t (.ip (tpC c1 c2 t))∧e 3=.ms 0 N 0 N 1 true)→R (.exit 0) e [.row 1 (((t.links.foldl dStep (List.replicate N 0)).map I).map .t) mr])
  (hR2:soundL t=false→∀ e hh,e 2=.t (B false)→R .ret e hh) :
  wpIter 1 (some [1,3,4]) (wc Try.prog pol (ans Try.prog pol) (inl Try.prog pol (ans Try.prog pol) nn dd) nn 21 il21l1) R nn e [.row 1 (((List.replicate N (0:Int)).map I).map .t) 0]:=by
 refine q0k t.links encK (step:=fun i l m=>if rgOk t i l=true then Ctl.go (dStep m l) else Ctl.out none) (fin:=some)
  (St:=fun i m e h=>(e 1=.t (.ip (tpC c1 c2 t))∧e 3=.ms 0 N 0 N 1 true∧e 4=.t (I (i:Nat)))∧m.length=N∧(∀ x∈m,0≤x∧x≤2*(i:Int))∧∃ mr,mr≤N∧h=[.row 1 ((m.map I).map .t) mr])
  (Ex:=fun r x e h=>(∃ m,r=some m∧x=.exit 0∧(e 1=.t (.ip (tpC c1 c2 t))∧e 3=.ms 0 N 0 N 1 true)∧∃ mr,mr≤N∧h=[.row 1 ((m.map I).map .t) mr])∨(r=none∧x=.ret∧e 2=.t (B false))) (s:=List.replicate N 0) (by omega) ?_ ?_ (by omega) ⟨he,by simp,fun x hx=>by have:=(List.mem_replicate.1 hx).2; omega,0,by omega,rfl⟩ ?_
 ·intro i l m e h Y R' hm hi hx hget hlt hw ⟨hs,hl,hbd,mr,hmr,hh⟩ hk
  subst hh
  have k1:=qgt c1 c2 t l hz
  have gx:(t.links.map encK)[i]? = some (lkT l):=hget
  cases hlr:lkR t l with
  | false =>
   rw [hlr] at k1
   rw [if_neg (by simp [rgOk,hlr]),q09] at hk
   (repeat' first|simp only [il21l1_go,il21l1b,go_sem,hs,gx,hlt,k1,hmr]|with_reducible refine wX fun _=>?_|((with_reducible refine wY ?_ ?_); rfl)|fail)
   all_goals (refine hk _ _ _ (.inr ⟨rfl,rfl,?_⟩); simp only [go_sem])
  | true =>
   rw [hlr] at k1
   (repeat' first|simp only [il21l1_go,il21l1b,go_sem,hs,gx,hlt,k1,hmr]|with_reducible refine wX fun _=>?_|((with_reducible refine wY ?_ ?_); rfl)|fail)
   refine qiw t hb c1 c2 N i (by omega) l m mr _ _ hn _ _ (by simp only [go_sem,hs]) ?_ ?_
   ·intro h3 e1 he1
    rw [if_pos (by simp [rgOk,hlr,h3]),q06] at hk
    have hlk1:lk1 t l=true:=by simp only [lkR,Bool.and_eq_true] at hlr; exact hlr.1
    obtain ⟨p1,p2,p3⟩:=of_decide_eq_true hlk1
    have q1:0≤l.a:=p1.1
    have q2:0≤l.b:=p2.1
    have q3:l.a.toNat < N:=by have:=p1.2; omega
    have q4:l.b.toNat < N:=by have:=p2.2; omega
    have g1:=q1E (m:=m) (n:=l.a) (by omega)
    have b1:=iA_bd (n:=l.a) hbd (by omega)
    have s1:=map_set (enc:=I) (l:=m) (i:=l.a.toNat) (x:=iA m l.a+1)
    have bd1:=q2z (i:=l.a.toNat) (y:=iA m l.a+1) hbd (by omega)
    have w1:IntKind.i64.wrap (iA m l.a+1)=iA m l.a+1:=q00 (by omega) (by omega)
    have hl1:(m.set l.a.toNat (iA m l.a+1)).length=N:=by simpa using hl
    simp only [dStep] at hk
    generalize hm1:m.set l.a.toNat (iA m l.a+1)=m1 at *
    have g2:=q1E (m:=m1) (n:=l.b) (by omega)
    have b2:=iA_bd (n:=l.b) bd1 (by omega)
    have s2:=map_set (enc:=I) (l:=m1) (i:=l.b.toNat) (x:=iA m1 l.b+1)
    have bd2:=q2z (i:=l.b.toNat) (y:=iA m1 l.b+1) bd1 (by omega)
    have w2:IntKind.i64.wrap (iA m1 l.b+1)=iA m1 l.b+1:=q00 (by omega) (by omega)
    have hl2:(m1.set l.b.toNat (iA m1 l.b+1)).length=N:=by simpa using hl1
    generalize m1.set l.b.toNat (iA m1 l.b+1)=m2 at *
    generalize iA m1 l.b=z at *
    generalize iA m l.a=v at *
    (repeat' first|simp only [il21l1_go,il21l1b,go_sem,he1,hlt,hw,q1,q2,q3,q4,g1,s1,w1,g2,s2,w2,hl,hl1,hl2,hmr]|with_reducible refine wX fun _=>?_|((with_reducible refine wY ?_ ?_); rfl)|fail)
    all_goals (refine hk _ _ ⟨?_,hl2,fun x hx=>by have:=bd2 x hx; omega,N,Nat.le_refl _,?_⟩ <;> simp only [go_sem,he1,hw])
   ·intro h3 e1 hh he1
    rw [if_neg (by simp [rgOk,h3]),q09] at hk
    (repeat' first|simp only [il21l1_go,il21l1b,go_sem,he1]|with_reducible refine wX fun _=>?_|((with_reducible refine wY ?_ ?_); rfl)|fail)
    all_goals (refine hk _ _ _ (.inr ⟨rfl,rfl,?_⟩); simp only [go_sem,he1])
 ·intro m e h Y R' hlt ⟨hs,hl,hbd,mr,hmr,hh⟩ hk
  subst hh
  (repeat' first|simp only [il21l1_go,il21l1b,go_sem,hs,hlt]|with_reducible refine wX fun _=>?_|((with_reducible refine wY ?_ ?_); rfl)|fail)
  all_goals (refine hk _ _ _ (.inl ⟨m,rfl,rfl,?_,mr,hmr,rfl⟩); simp only [go_sem,hs])
 ·intro x e h hx
  rw [qix t.links 0 _ (fun k _=>by rw [Nat.zero_add]),← List.range_eq_range'] at hx
  change (∃ m,(if soundL t=true then _ else _)=some m∧_)∨_ at hx
  rcases hx with ⟨m,h1,rfl,h2,mr,hmr,rfl⟩|⟨h1,rfl,h2⟩
  ·by_cases q:soundL t=true
   ·rw [if_pos q] at h1
    obtain rfl:=Option.some.inj h1
    exact hR1 q _ mr hmr h2
   ·rw [if_neg q] at h1; cases h1
  ·refine hR2 ?_ _ _ h2
   cases q:soundL t with
   | false=>rfl
   | true =>
    have h1:(if soundL t=true then some (t.links.foldl dStep (List.replicate N 0)) else none)=none:=h1
    rw [if_pos q] at h1; cases h1
def rgN (t:Tpo) (m:List Int) (rl:List Bool) (n:Nat):Bool:=rl[n]?.getD false && !(stA t n && (decide (iA m (n:Nat) < 1) || decide (2 < iA m (n:Nat))))
theorem qiz (t:Tpo) (hz:(t.station.length:Int)=t.nodes) (c1 c2:Bool) (N:Nat) (hN:(N:Int)=t.nodes) (h12:N≤12) (m:List Int) (hm:m.length=N) (rl:List Bool) (hrl:rl.length=N) (mr:Nat) (hmr:mr≤N) (J:Inl) (nn:Nat) (hn:100 < nn) (R:Xit→FEnv→Heap→Prop) (e:FEnv)
  (he:e 1=.t (.ip (tpC c1 c2 t))∧e 3=.ms 0 N 0 N 1 true∧e 7=.t (.sl true 1 (rl.map B))∧e 8=.t (I 0))
  (hR1:(List.range N).all (rgN t m rl)=true→∀ e hh,R (.exit 4) e hh)
  (hR2:(List.range N).all (rgN t m rl)=false→∀ e hh,e 2=.t (B false)→R .ret e hh) :
  wpIter 1 (some [1,3,7,8]) (wc Try.prog pol (ans Try.prog pol) J nn 21 il21l2) R nn e [.row 1 ((m.map I).map .t) mr]:=by
 refine q0G N (step:=fun n (_:Unit)=>if rgN t m rl n=true then Ctl.go () else Ctl.out false) (fin:=fun _=>true)
  (St:=fun n _ e h=>(e 1=.t (.ip (tpC c1 c2 t))∧e 3=.ms 0 N 0 N 1 true∧e 7=.t (.sl true 1 (rl.map B))∧e 8=.t (I (n:Nat)))∧h=[.row 1 ((m.map I).map .t) mr])
  (Ex:=fun r x e h=>(r=true∧x=.exit 4)∨(r=false∧x=.ret∧e 2=.t (B false))) (s:=()) (by omega) ?_ ?_ (by omega) ⟨he,rfl⟩ ?_
 ·intro n _ e h Y R' hi hlt hw ⟨hs,hh⟩ hk
  subst hh
  rw [hN] at hlt
  have gr:(rl.map B)[n]? = some (B (rl[n]?.getD false)):=by simp [show n < rl.length by omega]
  have gs:(t.station.map B)[n]? = some (B (stA t n)):=by simp [stA,show n < t.station.length by omega]
  have gm:=q1E (m:=m) (n:=(n:Nat)) (by omega)
  rw [Int.toNat_natCast] at gm
  unfold rgN at hk
  generalize rl[n]?.getD false=b1 at *
  generalize iA m (n:Nat)=v at *
  cases b1 with
  | false =>
   rw [if_neg (by simp),q09] at hk
   (repeat' first|simp only [il21l2_go,il21l2b,go_sem,hs,gr,hlt]|with_reducible refine wX fun _=>?_|((with_reducible refine wY ?_ ?_); rfl)|fail)
   all_goals (refine hk _ _ _ (.inr ⟨rfl,rfl,?_⟩); simp only [go_sem])
  | true =>
   cases hst:stA t n with
   | false =>
    rw [hst] at gs hk
    rw [if_pos (by simp),q06] at hk
    (repeat' first|simp only [il21l2_go,il21l2b,go_sem,hs,gr,gs,hlt,hw]|with_reducible refine wX fun _=>?_|((with_reducible refine wY ?_ ?_); rfl)|fail)
    all_goals (refine hk _ _ ⟨?_,rfl⟩; simp only [go_sem,hs,hw])
   | true =>
    rw [hst] at gs hk
    by_cases d1:v < 1
    ·have d1':decide (v < 1)=true:=decide_eq_true d1
     rw [if_neg (by simp [d1']),q09] at hk
     (repeat' first|simp only [il21l2_go,il21l2b,go_sem,hs,gr,gs,gm,hlt,hi,hm,hmr,d1']|with_reducible refine wX fun _=>?_|((with_reducible refine wY ?_ ?_); rfl)|fail)
     all_goals (refine hk _ _ _ (.inr ⟨rfl,rfl,?_⟩); simp only [go_sem])
    ·have d1':decide (v < 1)=false:=decide_eq_false d1
     by_cases d2:2 < v
     ·have d2':decide (2 < v)=true:=decide_eq_true d2
      rw [if_neg (by simp [d1',d2']),q09] at hk
      (repeat' first|simp only [il21l2_go,il21l2b,go_sem,hs,gr,gs,gm,hlt,hi,hm,hmr,d1',d2']|with_reducible refine wX fun _=>?_|((with_reducible refine wY ?_ ?_); rfl)|fail)
      all_goals (refine hk _ _ _ (.inr ⟨rfl,rfl,?_⟩); simp only [go_sem])
     ·have d2':decide (2 < v)=false:=decide_eq_false d2
      rw [if_pos (by simp [d1',d2']),q06] at hk
      (repeat' first|simp only [il21l2_go,il21l2b,go_sem,hs,gr,gs,gm,hlt,hw,hi,hm,hmr,d1',d2']|with_reducible refine wX fun _=>?_|((with_reducible refine wY ?_ ?_); rfl)|fail)
      all_goals (refine hk _ _ ⟨?_,rfl⟩; simp only [go_sem,hs,hw])
 ·intro _ e h Y R' hlt ⟨hs,hh⟩ hk
  subst hh
  have hlt:decide (((N:Nat):Int) < t.nodes)=false:=by rw [← hN]; exact hlt
  (repeat' first|simp only [il21l2_go,il21l2b,go_sem,hs,hlt]|with_reducible refine wX fun _=>?_|((with_reducible refine wY ?_ ?_); rfl)|fail)
  all_goals exact hk _ _ _ (.inl ⟨rfl,rfl⟩)
 ·intro x e h hx
  rw [foldC_all,← List.range_eq_range'] at hx
  rcases hx with ⟨h1,rfl⟩|⟨h1,rfl,h2⟩
  ·exact hR1 h1 _ _
  ·exact hR2 h1 _ _ h2
theorem qiA {t:Tpo} {N:Nat} {rl:List Bool} (hz:t.station.length=N) (hrl:rl.length=N):(List.range N).all (rgN t (degs t) rl)=(degOk t && !decide (false∈rl)):=by
 rw [Bool.eq_iff_iff]
 simp only [degOk,hz,List.all_eq_true,List.mem_range,Bool.and_eq_true,rgN,Bool.not_eq_true',decide_eq_false_iff_not,Bool.or_eq_true,decide_eq_true_eq,Bool.and_eq_false_iff,Bool.or_eq_false_iff]
 constructor
 ·intro h
  refine ⟨fun n hn=>?_,fun hm=>?_⟩
  ·rcases (h n hn).2 with h1|⟨h1,h2⟩
   ·exact .inl h1
   ·exact .inr (by omega)
  ·obtain ⟨n,hn,hv⟩:=List.getElem_of_mem hm
   have:=(h n (by omega)).1
   rw [List.getElem?_eq_getElem hn,hv] at this
   cases this
 ·rintro ⟨h1,h2⟩ n hn
  refine ⟨?_,?_⟩
  ·rw [List.getElem?_eq_getElem (by omega)]
   cases hv:rl[n]'(by omega) with
   | true=>rfl
   | false=>exact absurd (hv ▸ List.getElem_mem _) h2
  ·rcases h1 n hn with h|h
   ·exact .inl h
   ·exact .inr (by omega)
theorem q7d (c1 c2:Bool) (t:Tpo):ans Try.prog pol 21 [tpT c1 c2 t]=some (B (okT t)):=by
 by_cases h1:t.nodes < 2
 ·have e1:=decide_eq_true h1
  rw [show okT t=false by rw [okT,decide_eq_false (fun h=>by have:=h.1.1; omega)]; rfl]
  refine q02 1 1 il21_eq (Nat.le_of_ble_eq_true rfl) ?_
  (repeat' first|simp only [il21c,go_sem,e1]|with_reducible refine wX fun _=>?_|((with_reducible refine wY ?_ ?_); rfl)|fail)
 have e1:=decide_eq_false h1
 by_cases h2:12 < t.nodes
 ·have e2:=decide_eq_true h2
  rw [show okT t=false by rw [okT,decide_eq_false (fun h=>by have:=h.1.2; omega)]; rfl]
  refine q02 1 1 il21_eq (Nat.le_of_ble_eq_true rfl) ?_
  (repeat' first|simp only [il21c,go_sem,e1,e2]|with_reducible refine wX fun _=>?_|((with_reducible refine wY ?_ ?_); rfl)|fail)
 have e2:=decide_eq_false h2
 by_cases h3:(t.station.length:Int)=t.nodes
 rotate_left
 ·have e3:=decide_eq_false h3
  rw [show okT t=false by rw [okT,decide_eq_false (fun h=>h3 h.2.1)]; rfl]
  refine q02 1 1 il21_eq (Nat.le_of_ble_eq_true rfl) ?_
  (repeat' first|simp only [il21c,go_sem,e1,e2,e3]|with_reducible refine wX fun _=>?_|((with_reducible refine wY ?_ ?_); rfl)|fail)
 have e3:=decide_eq_true h3
 by_cases h4:(24:Int) < (t.links.length:Nat)
 ·have e4:=decide_eq_true h4
  rw [show okT t=false by rw [okT,decide_eq_false (fun h=>by have:=h.2.2; omega)]; rfl]
  refine q02 1 1 il21_eq (Nat.le_of_ble_eq_true rfl) ?_
  (repeat' first|simp only [il21c,go_sem,e1,e2,e3,e4]|with_reducible refine wX fun _=>?_|((with_reducible refine wY ?_ ?_); rfl)|fail)
 have e4:=decide_eq_false h4
 have hz:sizeP t:=⟨⟨by omega,by omega⟩,h3,by omega⟩
 obtain ⟨N,hN⟩:∃ N:Nat,(N:Int)=t.nodes:=⟨t.nodes.toNat,by omega⟩
 have hNn:t.nodes.toNat=N:=by omega
 have hroom:8*N≤roomB:=by rw [Nat.mul_comm]; exact q16 (by omega) (by omega)
 have hbig:N≤9223372036854775807:=by omega
 have hpos:0≤t.nodes:=by omega
 have hdeg:t.links.foldl dStep (List.replicate N 0)=degs t:=by rw [degs,hNn]
 have hdl:=q6d t
 rw [hNn] at hdl
 have hrl:=q2y t 0 (fun _=>false)
 rw [hNn] at hrl
 have ho:okT t=(soundL t && (degOk t && !(decide (false∈reachL t 0 (fun _=>false))))):=by rw [okT,decide_eq_true hz,Bool.true_and]
 have k2:soundL t=true→ans Try.prog pol 53 [tpT c1 c2 t,I 0,.sc (.slice none 0 0)]=some (.sl true 1 ((reachL t 0 (fun _=>false)).map B)):=fun hs=>qit c1 c2 t (q6c hs) (by omega) (by omega) 0 (by omega)
 rw [← qiA (by omega) hrl] at ho
 generalize reachL t 0 (fun _=>false)=rl at *
 have hmap:List.replicate N (AV.t (T.sc (Value.int IntKind.i64 0)))=((List.replicate N (0:Int)).map I).map .t:=by simp
 obtain ⟨nn,hn⟩:∃ nn,100 < nn:=⟨101,by omega⟩
 refine q02 nn 1 il21_eq (Nat.le_of_ble_eq_true rfl) ?_
 (repeat' first|simp only [il21c,go_sem,e1,e2,e3,e4,hroom,hbig,hpos,hNn]|with_reducible refine wX fun _=>?_|((with_reducible refine wY ?_ ?_); rfl)|fail)
 rw [hmap]
 refine qiy t h3 (by omega) c1 c2 N hN _ _ hn _ _ (by simp only [go_sem]) ?_ ?_
 ·intro hs e mr hmr he
  rw [hdeg]
  have k2:=k2 hs
  rw [hs,Bool.true_and] at ho
  (repeat' first|simp only [il21c,go_sem,he,k2]|with_reducible refine wX fun _=>?_|((with_reducible refine wY ?_ ?_); rfl)|fail)
  refine qiz t h3 c1 c2 N hN (by omega) (degs t) hdl rl hrl mr hmr _ _ hn _ _ (by simp only [go_sem,he]) ?_ ?_
  ·intro h5 e hh
   rw [ho,h5]
   (repeat' first|simp only [il21c,go_sem]|with_reducible refine wX fun _=>?_|((with_reducible refine wY ?_ ?_); rfl)|fail)
  ·intro h5 e hh he2
   rw [ho,h5]
   (repeat' first|simp only [il21c,go_sem,he2]|with_reducible refine wX fun _=>?_|((with_reducible refine wY ?_ ?_); rfl)|fail)
 ·intro hs e hh he2
  rw [ho,hs,Bool.false_and]
  (repeat' first|simp only [il21c,go_sem,he2]|with_reducible refine wX fun _=>?_|((with_reducible refine wY ?_ ?_); rfl)|fail)
end Go.Proofs.Ytnjaokhdeaeegaa
namespace Go.Proofs.Ytnjaokhdeaeegaa
open Go Go.Abs
def few7 (t:Tpo):Tpo:=⟨t.nodes,t.station.take 20,t.links.take 16⟩
theorem qiB (c1 c2:Bool) (t:Tpo):∃ d1 d2,ans Try.prog pol 11 [tpT c1 c2 t]=some (tpT d1 d2 (few7 t)):=by
 obtain ⟨nodes,st,lk⟩:=t
 simp only [few7,tpT,tpC]
 have m20:(if 20 < ((st.length:Nat):Int) then (20:Int) else ((st.length:Nat):Int))=((min 20 st.length:Nat):Int):=by split <;> omega
 have m30:(if 16 < ((lk.length:Nat):Int) then (16:Int) else ((lk.length:Nat):Int))=((min 16 lk.length:Nat):Int):=by split <;> omega
 have t20:List.take (min 20 st.length) (st.map B)=(st.take 20).map B:=by rw [List.map_take,List.take_eq_take_min (i:=20) (l:=st.map B),List.length_map]
 have t30:List.take (min 16 lk.length) (lk.map encK)=(lk.take 16).map encK:=by rw [List.map_take,List.take_eq_take_min (i:=16) (l:=lk.map encK),List.length_map]
 have q20:min 20 st.length≤st.length:=Nat.min_le_right _ _
 have q30:min 16 lk.length≤lk.length:=Nat.min_le_right _ _
 generalize hA:(st.take 20).map B=A at *
 generalize hL:(lk.take 16).map encK=L at *
 generalize hb1:decide (min 20 st.length=st.length)=b1 at *
 generalize hb2:decide (min 16 lk.length=lk.length)=b2 at *
 refine ⟨c1 && b1,c2 && b2,?_⟩
 refine q02 1 1 il11_eq (Nat.le_of_ble_eq_true rfl) ?_
 (repeat' first|simp only [il11c,go_sem,m20,m30,t20,t30,q20,q30,hb1,hb2]|with_reducible refine wX fun _=>?_|((with_reducible refine wY ?_ ?_); rfl)|fail)
def wantE (t:Tpo) (a b:Int):Int:=if okT t=true then (if endP t a b then 0 else 2) else 260
theorem qiC (c1 c2:Bool) (t:Tpo) (a b:Int):ans Try.prog pol 13 [tpT c1 c2 t,I a,I b]=some (I (wantE t a b)):=by
 have kR:=q7d c1 c2 t
 unfold wantE
 have tT:List.take 3 (tpC c1 c2 t)=tpC c1 c2 t:=rfl
 cases hok:okT t with
 | false =>
  rw [hok] at kR
  rw [if_neg (by simp)]
  refine q02 1 1 il13_eq (Nat.le_of_ble_eq_true rfl) ?_
  (repeat' first|simp only [il13c,go_sem,kR,tT]|with_reducible refine wX fun _=>?_|((with_reducible refine wY ?_ ?_); rfl)|fail)
 | true =>
  rw [hok] at kR
  rw [if_pos rfl]
  by_cases d1:a < 0
  ·have e1:=decide_eq_true d1
   rw [if_neg (fun k=>by have:=k.1.1; omega)]
   refine q02 1 1 il13_eq (Nat.le_of_ble_eq_true rfl) ?_
   (repeat' first|simp only [il13c,go_sem,kR,tT,e1]|with_reducible refine wX fun _=>?_|((with_reducible refine wY ?_ ?_); rfl)|fail)
  ·have e1:=decide_eq_false d1
   by_cases d2:t.nodes≤a
   ·have e2:=decide_eq_true d2
    rw [if_neg (fun k=>by have:=k.1.2; omega)]
    refine q02 1 1 il13_eq (Nat.le_of_ble_eq_true rfl) ?_
    (repeat' first|simp only [il13c,go_sem,kR,tT,e1,e2]|with_reducible refine wX fun _=>?_|((with_reducible refine wY ?_ ?_); rfl)|fail)
   ·have e2:=decide_eq_false d2
    by_cases d3:b < 0
    ·have e3:=decide_eq_true d3
     rw [if_neg (fun k=>by have:=k.2.1.1; omega)]
     refine q02 1 1 il13_eq (Nat.le_of_ble_eq_true rfl) ?_
     (repeat' first|simp only [il13c,go_sem,kR,tT,e1,e2,e3]|with_reducible refine wX fun _=>?_|((with_reducible refine wY ?_ ?_); rfl)|fail)
    ·have e3:=decide_eq_false d3
     by_cases d4:t.nodes≤b
     ·have e4:=decide_eq_true d4
      rw [if_neg (fun k=>by have:=k.2.1.2; omega)]
      refine q02 1 1 il13_eq (Nat.le_of_ble_eq_true rfl) ?_
      (repeat' first|simp only [il13c,go_sem,kR,tT,e1,e2,e3,e4]|with_reducible refine wX fun _=>?_|((with_reducible refine wY ?_ ?_); rfl)|fail)
     ·have e4:=decide_eq_false d4
      by_cases d5:a=b
      ·have e5:=decide_eq_true d5
       rw [if_neg (fun k=>k.2.2 d5)]
       refine q02 1 1 il13_eq (Nat.le_of_ble_eq_true rfl) ?_
       (repeat' first|simp only [il13c,go_sem,kR,tT,e1,e2,e3,e4,e5]|with_reducible refine wX fun _=>?_|((with_reducible refine wY ?_ ?_); rfl)|fail)
      ·have e5:=decide_eq_false d5
       rw [if_pos ⟨⟨by omega,by omega⟩,⟨by omega,by omega⟩,d5⟩]
       refine q02 1 1 il13_eq (Nat.le_of_ble_eq_true rfl) ?_
       (repeat' first|simp only [il13c,go_sem,kR,tT,e1,e2,e3,e4,e5]|with_reducible refine wX fun _=>?_|((with_reducible refine wY ?_ ?_); rfl)|fail)
end Go.Proofs.Ytnjaokhdeaeegaa
namespace Go.Proofs.Ytnjaokhdeaeegaa
open Go Go.Abs
theorem q7e {t:Tpo} {r:List Nat} {i p:Nat} (hp:r[i]? = some p):(ndN t (r.take i++[p])).dropLast=(ndN t r).take (i+1):=by
 have e:r.take i++[p]=r.take (i+1):=by rw [List.take_add_one,hp]; rfl
 rw [q25,ndN,List.take_succ_cons,List.map_take]
 congr 1
 rw [e,begN,begN,List.getElem?_take,if_pos (by omega)]
def badN (t:Tpo) (r:List Nat) (i x:Nat):Prop:=x∈(ndN t r).take i∨(0 < i∧i < r.length∧(stA t x=true∨frN t (r[i]?.getD 0)≠x))
instance (t:Tpo) (r:List Nat) (i x:Nat):Decidable (badN t r i x):=inferInstanceAs (Decidable (_∨_))
theorem q7f {t:Tpo} {r:List Nat} {i p:Nat} (hp:r[i]? = some p):atE (grT t) 0 (r.take (i+1))=toN t p:=by
 rw [List.take_add_one,hp]
 show atE (grT t) 0 (r.take i++[p])=_
 rw [q0O]; rfl
theorem q45 {t:Tpo} {r:List Nat} {i:Nat}:(ndN t r)[i+1]? = (r[i]?).map (toN t):=by
 rw [ndN,List.getElem?_cons_succ,List.getElem?_map]
theorem qiD {t:Tpo} {r:List Nat}:(∀ i x,(ndN t r)[i]? = some x→¬ badN t r i x)↔okR t r:=by
 constructor
 ·intro h i p hp
  have hlt:=(List.getElem?_eq_some_iff.1 hp).1
  refine ⟨?_,?_⟩
  ·cases i with
   | zero=>exact .inl rfl
   | succ j =>
    right
    have hj:j < r.length:=by omega
    have hq:r[j]? = some r[j]:=List.getElem?_eq_getElem hj
    rw [q7f hq]
    have k:=h (j+1) (toN t r[j]) (by rw [q45,hq]; rfl)
    rw [badN,hp] at k
    simp only [Option.getD_some] at k
    have k1:frN t p=toN t r[j]:=Decidable.byContradiction fun e=>k (.inr ⟨by omega,hlt,.inr e⟩)
    refine ⟨k1,?_⟩
    rw [k1]
    cases z:stA t (toN t r[j]) with
    | false=>rfl
    | true=>exact absurd (.inr ⟨by omega,hlt,.inl z⟩) k
  ·rw [q7e hp]
   intro e
   exact h (i+1) (toN t p) (by rw [q45,hp]; rfl) (.inl e)
 ·intro h i x hx
  cases i with
  | zero =>
   rintro (k|⟨k,_⟩)
   ·simp at k
   ·omega
  | succ j =>
   rw [q45] at hx
   obtain ⟨p,hp,rfl⟩:=Option.map_eq_some_iff.1 hx
   have k:=h j p hp
   rintro (e|⟨_,e,e2⟩)
   ·rw [stpN,q7e hp] at k
    exact k.2 e
   ·have hq:r[j+1]? = some r[j+1]:=List.getElem?_eq_getElem e
    have k2:=(h (j+1) r[j+1] hq).1
    rw [q7f hp] at k2
    rw [hq] at e2
    simp only [Option.getD_some] at e2
    rcases k2 with k2|⟨k2,k3⟩
    ·have:=congrArg List.length k2
     simp at this
     rw [this] at e
     simp at e
    ·rcases e2 with e2|e2
     ·rw [← k2,k3] at e2; cases e2
     ·exact e2 k2
theorem qiE {t:Tpo} {r:List Nat}:∀ (l:List Nat) (i:Nat),foldC (fun i x (_:Unit)=>if badN t r i x then Ctl.out false else Ctl.go ()) (fun _=>true) i l ()=true↔(∀ j x,l[j]? = some x→¬ badN t r (i+j) x):=by
 intro l
 induction l with
 | nil=>intro i; simp [foldC]
 | cons y l ih =>
  intro i
  by_cases h:badN t r i y
  ·rw [q0p (r:=false) (by rw [if_pos h])]
   constructor
   ·intro k; cases k
   ·intro k
    exact absurd h (k 0 y rfl)
  ·rw [q0g (s':=()) (by rw [if_neg h]),ih]
   constructor
   ·intro k j x hx
    cases j with
    | zero=>simp at hx; subst hx; exact h
    | succ j=>have:=k j x (by simpa using hx); rwa [show i+(j+1)=i+1+j from by omega]
   ·intro k j x hx
    have:=k (j+1) x (by simpa using hx)
    rwa [show i+(j+1)=i+1+j from by omega] at this
theorem qiF {α:Type} {p:α→Bool}:∀ (l:List α) (i:Nat) (u:Unit),foldC (fun _ x (_:Unit)=>if p x=true then Ctl.go () else Ctl.out false) (fun _=>true) i l u=l.all p:=by
 intro l
 induction l with
 | nil=>intro i u; rfl
 | cons x l ih =>
  intro i u
  cases h:p x with
  | true=>rw [q0g (s':=()) (by rw [h,if_pos rfl]),ih,List.all_cons,h,Bool.true_and]
  | false=>rw [q0p (r:=false) (by rw [h,if_neg (by simp)]),List.all_cons,h,Bool.false_and]
section
variable (c1 c2 c:Bool) (t:Tpo) (h:okT t=true)
theorem qiG (x:Int) (hl:t.links.length≤1000):ans Try.prog pol 54 [tpT c1 c2 t,I x]=some (B (decide (0≤x∧x < ((2*t.links.length:Nat):Int)))):=by
 have w:IntKind.i64.wrap (2*((t.links.length:Nat):Int))=((2*t.links.length:Nat):Int):=by rw [q00 (by omega) (by omega)]; omega
 refine q02 1 1 il54_eq (Nat.le_of_ble_eq_true rfl) ?_
 by_cases h1:0≤x
 ·have e1:=decide_eq_true h1
  have e2:decide (0≤x∧x < ((2*t.links.length:Nat):Int))=decide (x < ((2*t.links.length:Nat):Int)):=by simp [h1]
  rw [e2]
  (repeat' first|simp only [il54c,go_sem,e1,w,List.length_map]|with_reducible refine wX fun _=>?_|((with_reducible refine wY ?_ ?_); rfl)|fail)
 ·have e1:=decide_eq_false h1
  have e2:decide (0≤x∧x < ((2*t.links.length:Nat):Int))=false:=decide_eq_false (fun k=>h1 k.1)
  rw [e2]
  (repeat' first|simp only [il54c,go_sem,e1,w,List.length_map]|with_reducible refine wX fun _=>?_|((with_reducible refine wY ?_ ?_); rfl)|fail)
theorem qiH {r:List Nat} (h:okT t=true) (hp:ptP t r) (hne:r≠[]):ndL t r=(ndN t r).map ofN:=by
 rw [ndL,ndN,List.map_cons,List.map_map,begN]
 congr 1
 ·have h0:0 < r.length:=List.length_pos_iff.2 hne
  rw [List.getElem?_eq_getElem h0]
  exact (q0r h (hp _ (List.getElem_mem h0))).1
 ·refine List.map_congr_left fun p hq=>(q0r h (hp p hq)).2.1
include h
theorem qiI (r:List Int) (hr:r.length≤1000):ans Try.prog pol 22 [tpT c1 c2 t,.sl c 1 (r.map I)]=some (B (vldB t r)):=by
 obtain ⟨z1,z2,z3⟩:=q0h h
 by_cases h1:r.length < 1
 ·have e1:decide (((r.length:Nat):Int) < 1)=true:=decide_eq_true (by omega)
  have hA:vldB t r=false:=by rw [← Bool.not_eq_true,q1c]; intro k; have:=k.1; omega
  rw [hA]
  refine q02 1 1 il22_eq (Nat.le_of_ble_eq_true rfl) ?_
  (repeat' first|simp only [il22c,go_sem,e1,List.length_map]|with_reducible refine wX fun _=>?_|((with_reducible refine wY ?_ ?_); rfl)|fail)
 have e1:decide (((r.length:Nat):Int) < 1)=false:=decide_eq_false (by omega)
 by_cases h8:8 < r.length
 ·have e2:decide ((8:Int) < ((r.length:Nat):Int))=true:=decide_eq_true (by omega)
  have hA:vldB t r=false:=by rw [← Bool.not_eq_true,q1c]; intro k; have:=k.1; omega
  rw [hA]
  refine q02 1 1 il22_eq (Nat.le_of_ble_eq_true rfl) ?_
  (repeat' first|simp only [il22c,go_sem,e1,e2,List.length_map]|with_reducible refine wX fun _=>?_|((with_reducible refine wY ?_ ?_); rfl)|fail)
 have e2:decide ((8:Int) < ((r.length:Nat):Int))=false:=decide_eq_false (by omega)
 obtain ⟨nn,hnn⟩:∃ nn,2000 < nn:=⟨2001,by omega⟩
 refine q02 nn 1 il22_eq (Nat.le_of_ble_eq_true rfl) ?_
 (repeat' first|simp only [il22c,go_sem,e1,e2,List.length_map]|with_reducible refine wX fun _=>?_|((with_reducible refine wY ?_ ?_); rfl)|fail)
 refine q0k r I (step:=fun _ x (_:Unit)=>if (decide (0≤x∧x < ((2*t.links.length:Nat):Int)))=true then Ctl.go () else Ctl.out false) (fin:=fun _=>true)
  (St:=fun i _ e h=>(e 1=.t (.sl c 1 (r.map I))∧e 2=.t (.ip (tpC c1 c2 t))∧e 5=.t (I (i:Nat)))∧h=[])
  (Ex:=fun s x e h=>(x=.ret∧s=false∧e 4=.t (B false))∨(x=.exit 0∧s=true∧e 1=.t (.sl c 1 (r.map I))∧e 2=.t (.ip (tpC c1 c2 t))∧h=[])) (s:=()) (by omega) ?_ ?_ (by omega) ?_ ?_
 ·intro i x a e h' Y R hm hi hx hget hlt hw ⟨hs,hh⟩ hk
  subst hh
  have kP:=qiG c1 c2 t x (by omega)
  cases q:decide (0≤x∧x < ((2*t.links.length:Nat):Int)) with
  | true =>
   rw [q] at kP hk
   rw [if_pos rfl,q06] at hk
   (repeat' first|simp only [il22l0_go,il22l0b,go_sem,hs,hlt,hw,hget,hi,kP,List.length_map]|with_reducible refine wX fun _=>?_|((with_reducible refine wY ?_ ?_); rfl)|fail)
   all_goals (refine hk _ _ ⟨?_,rfl⟩; simp only [go_sem,hs,hw])
  | false =>
   rw [q] at kP hk
   rw [if_neg (by simp),q09] at hk
   (repeat' first|simp only [il22l0_go,il22l0b,go_sem,hs,hlt,hw,hget,hi,kP,List.length_map]|with_reducible refine wX fun _=>?_|((with_reducible refine wY ?_ ?_); rfl)|fail)
   all_goals (refine hk _ _ _ (.inl ⟨rfl,rfl,?_⟩); simp only [go_sem])
 ·intro a e h' Y R hlt ⟨hs,hh⟩ hk
  subst hh
  (repeat' first|simp only [il22l0_go,il22l0b,go_sem,hs,hlt,List.length_map]|with_reducible refine wX fun _=>?_|((with_reducible refine wY ?_ ?_); rfl)|fail)
  all_goals (refine hk _ _ _ (.inr ⟨rfl,rfl,?_,?_,rfl⟩) <;> simp only [go_sem,hs])
 ·refine ⟨?_,rfl⟩
  simp only [go_sem,List.length_map]
 ·intro x e h' hx
  rw [qiF (p:=fun x=>decide (0≤x∧x < ((2*t.links.length:Nat):Int)))] at hx
  rcases hx with ⟨rfl,hx,h4⟩|⟨rfl,hx,h1',h2',rfl⟩
  ·have hA:vldB t r=false:=by
    rw [← Bool.not_eq_true,q1c]
    intro k
    rw [List.all_eq_false] at hx
    obtain ⟨y,hy,e⟩:=hx
    exact e (decide_eq_true (k.2.1 y hy))
   rw [hA]
   (repeat' first|simp only [il22c,go_sem,h4]|with_reducible refine wX fun _=>?_|((with_reducible refine wY ?_ ?_); rfl)|fail)
  ·have hall:∀ x∈r,0≤x∧x < ((2*t.links.length:Nat):Int):=fun x hx'=>of_decide_eq_true (List.all_eq_true.1 hx x hx')
   have hpt:=q43 t hall
   have hto:=q42 hall
   have hlen:(r.map Int.toNat).length=r.length:=List.length_map _
   have hvl:vldB t r=foldC (fun i x (_:Unit)=>if badN t (r.map Int.toNat) i x then Ctl.out false else Ctl.go ()) (fun _=>true) 0 (ndN t (r.map Int.toNat)) ():=by
    rw [Bool.eq_iff_iff,q1c,qiE]
    simp only [Nat.zero_add]
    rw [qiD]
    exact ⟨fun k=>k.2.2,fun k=>⟨by omega,hall,k⟩⟩
   rw [hvl]
   clear hvl hx
   rw [hto] at h1'
   generalize r.map Int.toNat=rn at *
   have hne:rn≠[]:=fun e=>by rw [e] at hlen; simp at hlen; omega
   have kN:=qh7 c1 c2 c t h rn hpt (by omega) hne
   rw [qiH t h hpt hne] at kN
   have hlN:(ndN t rn).length=rn.length+1:=by simp [ndN]
   have hfr:∀ i p,rn[i]? = some p→frP t p=frN t p:=fun i p hp=>(q0r h (hpt p (List.mem_of_getElem? hp))).1
   have hnd:∀ x∈ndN t rn,x < t.nodes.toNat:=by
    intro x hx
    rcases List.mem_cons.1 hx with rfl|hx
    ·have h0:0 < rn.length:=List.length_pos_iff.2 hne
     rw [begN,List.getElem?_eq_getElem h0]
     exact (q0r h (hpt _ (List.getElem_mem h0))).2.2.1
    ·obtain ⟨p,hp,rfl⟩:=List.mem_map.1 hx
     exact (q0r h (hpt p hp)).2.2.2.1
   have l1:=q0F rn
   generalize hNd:ndN t rn=Nd at *
   have hmm:(Nd.map ofN).map I=Nd.map (fun n=>I (ofN n)):=by rw [List.map_map]; rfl
   rw [hmm] at kN
   (repeat' first|simp only [il22c,go_sem,h1',h2',kN]|with_reducible refine wX fun _=>?_|((with_reducible refine wY ?_ ?_); rfl)|fail)
   refine q0k Nd (fun n=>I (ofN n)) (step:=fun i x (_:Unit)=>if badN t rn i x then Ctl.out false else Ctl.go ()) (fin:=fun _=>true)
    (St:=fun i _ e h=>(e 1=.t (.sl c 1 (ptL rn))∧e 2=.t (.ip (tpC c1 c2 t))∧e 6=.t (.sl false 1 (Nd.map (fun n=>I (ofN n))))∧e 7=.t (I (i:Nat)))∧h=[])
    (Ex:=fun s x e h=>(x=.ret∧s=false∧e 4=.t (B false))∨(x=.exit 2∧s=true)) (s:=()) (by omega) ?_ ?_ (by omega) ?_ ?_
   ·intro i x a e h' Y R hm hi hx hget hlt hw ⟨hs,hh⟩ hk
    subst hh
    have hget':(Nd.map (fun n=>I (ofN n)))[i]? = some (I ((x:Nat):Int)):=hget
    have hxn:=hnd x hm
    have kI:∀ c',ans Try.prog pol 55 [.sl c' 1 (List.take i (Nd.map (fun n=>I (ofN n)))),I ((x:Nat):Int)]=some (B (decide (x∈Nd.take i))):=by
     intro c'
     have k:=qhb c' ((Nd.take i).map ofN) ((x:Nat):Int) (by rw [List.length_map,List.length_take]; omega)
     rw [List.map_map,List.map_take] at k
     have e:decide (((x:Nat):Int)∈(Nd.take i).map ofN)=decide (x∈Nd.take i):=by
      apply decide_eq_decide.2
      constructor
      ·intro q
       obtain ⟨y,hy,e⟩:=List.mem_map.1 q
       rwa [← show y=x from Int.ofNat.inj e]
      ·intro q
       exact List.mem_map.2 ⟨x,q,rfl⟩
     rw [e] at k
     exact k
    have hi':i≤Nd.length:=by omega
    have hbad:badN t rn i x↔(x∈Nd.take i∨(0 < i∧i < rn.length∧(stA t x=true∨frN t (rn[i]?.getD 0)≠x))):=by rw [badN,hNd]
    cases z1:decide (x∈Nd.take i) with
    | true =>
     rw [z1] at kI
     rw [if_pos (hbad.2 (.inl (of_decide_eq_true z1))),q09] at hk
     (repeat' first|simp only [il22l1_go,il22l1b,go_sem,hs,hlt,hw,hget',hi,hi',kI,List.length_map]|with_reducible refine wX fun _=>?_|((with_reducible refine wY ?_ ?_); rfl)|fail)
     all_goals (refine hk _ _ _ (.inl ⟨rfl,rfl,?_⟩); simp only [go_sem])
    | false =>
     rw [z1] at kI
     have z1:=of_decide_eq_false z1
     by_cases z2:0 < i
     ·have g2:decide ((0:Int) < ((i:Nat):Int))=true:=decide_eq_true (by omega)
      by_cases z3:i < rn.length
      ·have g3:decide (((i:Nat):Int) < ((rn.length:Nat):Int))=true:=decide_eq_true (by omega)
       have gst:(t.station.map B)[x]? = some (B (stA t x)):=q1H t h hxn
       have hst:x < t.station.length:=by omega
       cases z4:stA t x with
       | true =>
        rw [z4] at gst
        rw [if_pos (hbad.2 (.inr ⟨z2,z3,.inl z4⟩)),q09] at hk
        (repeat' first|simp only [il22l1_go,il22l1b,go_sem,hs,hlt,hw,hget',hi,hi',kI,g2,g3,gst,hst,l1,List.length_map]|with_reducible refine wX fun _=>?_|((with_reducible refine wY ?_ ?_); rfl)|fail)
        all_goals (refine hk _ _ _ (.inl ⟨rfl,rfl,?_⟩); simp only [go_sem])
       | false =>
        rw [z4] at gst
        obtain ⟨p,hp⟩:∃ p,rn[i]? = some p:=⟨_,List.getElem?_eq_getElem z3⟩
        have gp:=q0Z hp
        have kF:=q3F c1 c2 t p (hpt p (List.mem_of_getElem? hp)) (by omega)
        rw [hfr i p hp] at kF
        rw [hp] at hbad
        simp only [Option.getD_some] at hbad
        by_cases z5:frN t p=x
        ·have g5:decide (((frN t p:Nat):Int)=((x:Nat):Int))=true:=decide_eq_true (by omega)
         rw [if_neg (fun k=>by rcases hbad.1 k with k|⟨_,_,k|k⟩; exact z1 k; rw [z4] at k; cases k; exact k z5),q06] at hk
         (repeat' first|simp only [il22l1_go,il22l1b,go_sem,hs,hlt,hw,hget',hi,hi',kI,g2,g3,g5,gst,hst,l1,gp,z3,kF,List.length_map]|with_reducible refine wX fun _=>?_|((with_reducible refine wY ?_ ?_); rfl)|fail)
         all_goals (refine hk _ _ ⟨?_,rfl⟩; simp only [go_sem,hs,hw])
        ·have g5:decide (((frN t p:Nat):Int)=((x:Nat):Int))=false:=decide_eq_false (by omega)
         rw [if_pos (hbad.2 (.inr ⟨z2,z3,.inr z5⟩)),q09] at hk
         (repeat' first|simp only [il22l1_go,il22l1b,go_sem,hs,hlt,hw,hget',hi,hi',kI,g2,g3,g5,gst,hst,l1,gp,z3,kF,List.length_map]|with_reducible refine wX fun _=>?_|((with_reducible refine wY ?_ ?_); rfl)|fail)
         all_goals (refine hk _ _ _ (.inl ⟨rfl,rfl,?_⟩); simp only [go_sem])
      ·have g3:decide (((i:Nat):Int) < ((rn.length:Nat):Int))=false:=decide_eq_false (by omega)
       rw [if_neg (fun k=>by rcases hbad.1 k with k|⟨_,k,_⟩; exact z1 k; exact z3 k),q06] at hk
       (repeat' first|simp only [il22l1_go,il22l1b,go_sem,hs,hlt,hw,hget',hi,hi',kI,g2,g3,l1,List.length_map]|with_reducible refine wX fun _=>?_|((with_reducible refine wY ?_ ?_); rfl)|fail)
       all_goals (refine hk _ _ ⟨?_,rfl⟩; simp only [go_sem,hs,hw])
     ·have g2:decide ((0:Int) < ((i:Nat):Int))=false:=decide_eq_false (by omega)
      rw [if_neg (fun k=>by rcases hbad.1 k with k|⟨k,_⟩; exact z1 k; exact z2 k),q06] at hk
      (repeat' first|simp only [il22l1_go,il22l1b,go_sem,hs,hlt,hw,hget',hi,hi',kI,g2,List.length_map]|with_reducible refine wX fun _=>?_|((with_reducible refine wY ?_ ?_); rfl)|fail)
      all_goals (refine hk _ _ ⟨?_,rfl⟩; simp only [go_sem,hs,hw])
   ·intro a e h' Y R hlt ⟨hs,hh⟩ hk
    subst hh
    (repeat' first|simp only [il22l1_go,il22l1b,go_sem,hs,hlt,List.length_map]|with_reducible refine wX fun _=>?_|((with_reducible refine wY ?_ ?_); rfl)|fail)
    all_goals exact hk _ _ _ (.inr ⟨rfl,rfl⟩)
   ·refine ⟨?_,rfl⟩
    simp only [go_sem,List.length_map,h1',h2']
   ·intro x e h' hx
    rcases hx with ⟨rfl,hx,h4⟩|⟨rfl,hx⟩
    ·rw [hx]
     (repeat' first|simp only [il22c,go_sem,h4]|with_reducible refine wX fun _=>?_|((with_reducible refine wY ?_ ?_); rfl)|fail)
    ·rw [hx]
     (repeat' first|simp only [il22c,go_sem]|with_reducible refine wX fun _=>?_|((with_reducible refine wY ?_ ?_); rfl)|fail)
end
end Go.Proofs.Ytnjaokhdeaeegaa
namespace Go.Proofs.Ytnjaokhdeaeegaa
open Go Go.Abs
theorem q46 (b:AObj) {r:List Int} (hne:r≠[]) (hl:r.length≤1000):apS 1 8 (.t (.sl true 1 [])) [b] (some ((r.map I).map AV.t))=some (.ms 1 r.length 0 r.length 1 false,[b,rowG 1 I r]):=by
 cases r with
 | nil=>exact absurd rfl hne
 | cons x r =>
  simp only [List.map_cons,q5R]
  simp only [List.length_cons] at hl
  rw [if_pos ⟨by simp only [List.length_map,List.length_nil]; exact q16 (by omega) (by omega),by simp⟩]
  simp [rowG]
theorem qiJ (c1 c2 c:Bool) (t:Tpo) (a b:Int) (r0:List Int) (hlen:r0.length < 9223372036854775808):ans Try.prog pol 5 [tpT c1 c2 t,I a,I b,.sl c 1 (r0.map I)]=some (B true):=by
 have kW:=qip
 obtain ⟨x1,x2,kF⟩:=qiB c1 c2 t
 generalize few7 t=u at *
 have tT:∀ (c1 c2:Bool) (t:Tpo),List.take 3 (tpC c1 c2 t)=tpC c1 c2 t:=fun _ _ _=>rfl
 have kw:=qiC x1 x2 u a b
 have kR:=q7d x1 x2 u
 have m12:(if 12 < ((r0.length:Nat):Int) then (12:Int) else ((r0.length:Nat):Int))=((min 12 r0.length:Nat):Int):=by split <;> omega
 have q12:min 12 r0.length≤r0.length:=Nat.min_le_right _ _
 have t12:List.take (min 12 r0.length) (r0.map I)=(r0.take 12).map I:=by rw [List.map_take,List.take_eq_take_min (i:=12) (l:=r0.map I),List.length_map]
 have l12:(r0.take 12).length≤12:=by rw [List.length_take]; omega
 generalize hr:r0.take 12=r at *
 refine q02 10 1 il5_eq (Nat.le_of_ble_eq_true rfl) ?_
 unfold wantE at kw
 cases hok:okT u with
 | false =>
  rw [hok] at kw kR
  rw [if_neg (by simp)] at kw
  have kC:=fun c=>qih x1 x2 c u r hok
  have kS:=qh2 x1 x2 u a b hok
  by_cases hne:r=[]
  ·rw [hne,List.map_nil] at t12
   simp only [hne,List.map_nil] at kC
   (repeat' first|simp only [il5c,go_sem,kW,kF,tT,m12,q12,t12,kw,kR,kC,kS]|with_reducible refine wX fun _=>?_|((with_reducible refine wY ?_ ?_); rfl)|fail)
  ·have kA:=fun b=>q46 b hne (show r.length≤1000 by omega)
   have kL:=fun b=>q3Q b r rfl
   (repeat' first|simp only [il5c,go_sem,kW,kF,tT,m12,q12,t12,kw,kR,kC,kS,kA,kL,q0I,q0J]|with_reducible refine wX fun _=>?_|((with_reducible refine wY ?_ ?_); rfl)|fail)
 | true =>
  rw [hok,if_pos rfl] at kw
  rw [hok] at kR
  have kC:=fun c=>q78 x1 x2 c u hok r (by omega)
  have kI:=fun c=>qiI x1 x2 c u hok r (by omega)
  cases hv:vldB u r with
  | false =>
   simp only [csA,hv,if_neg (show ¬ (false=true) by simp)] at kC kI
   by_cases hne:r=[]
   ·rw [hne,List.map_nil] at t12
    simp only [hne,List.map_nil] at kC kI
    by_cases he:endP u a b
    ·have hab:=he
     obtain ⟨⟨a1,a2⟩,⟨b1,b2⟩,_⟩:=hab
     obtain ⟨a',rfl⟩:∃ a':Nat,a=a':=⟨a.toNat,by omega⟩
     obtain ⟨b',rfl⟩:∃ b':Nat,b=b':=⟨b.toNat,by omega⟩
     rw [if_pos he] at kw
     have kS:=q2C x1 x2 u a' b' hok he
     have kQ:=q44 x1 x2 u hok a' b' (by omega) (by omega)
     generalize sepR u a' b'=S at *
     obtain ⟨s1,s2,s3⟩:=S
     simp only at kS kQ
     (repeat' first|simp only [il5c,go_sem,kW,kF,tT,m12,q12,t12,kw,kR,kC,kI,kS,kQ]|with_reducible refine wX fun _=>?_|((with_reducible refine wY ?_ ?_); rfl)|fail)
     all_goals (cases s3 <;> rfl)
    ·rw [if_neg he] at kw
     have kS:=q3O x1 x2 u a b hok he
     (repeat' first|simp only [il5c,go_sem,kW,kF,tT,m12,q12,t12,kw,kR,kC,kI,kS]|with_reducible refine wX fun _=>?_|((with_reducible refine wY ?_ ?_); rfl)|fail)
   ·have kA:=fun b=>q46 b hne (show r.length≤1000 by omega)
    have kL:=fun b=>q3Q b r rfl
    by_cases he:endP u a b
    ·have hab:=he
     obtain ⟨⟨a1,a2⟩,⟨b1,b2⟩,_⟩:=hab
     obtain ⟨a',rfl⟩:∃ a':Nat,a=a':=⟨a.toNat,by omega⟩
     obtain ⟨b',rfl⟩:∃ b':Nat,b=b':=⟨b.toNat,by omega⟩
     rw [if_pos he] at kw
     have kS:=q2C x1 x2 u a' b' hok he
     have kQ:=q44 x1 x2 u hok a' b' (by omega) (by omega)
     generalize sepR u a' b'=S at *
     obtain ⟨s1,s2,s3⟩:=S
     simp only at kS kQ
     (repeat' first|simp only [il5c,go_sem,kW,kF,tT,m12,q12,t12,kw,kR,kC,kI,kS,kQ,kA,kL,q0I,q0J]|with_reducible refine wX fun _=>?_|((with_reducible refine wY ?_ ?_); rfl)|fail)
     all_goals (cases s3 <;> rfl)
    ·rw [if_neg he] at kw
     have kS:=q3O x1 x2 u a b hok he
     (repeat' first|simp only [il5c,go_sem,kW,kF,tT,m12,q12,t12,kw,kR,kC,kI,kS,kA,kL,q0I,q0J]|with_reducible refine wX fun _=>?_|((with_reducible refine wY ?_ ?_); rfl)|fail)
  | true =>
   simp only [csA,hv,if_pos] at kC kI
   have hvp:=q1c.1 hv
   have hne:r≠[]:=fun e=>by have:=hvp.1.1; rw [e] at this; simp at this
   have hto:=q42 hvp.2.1
   have kG:∀ c,ans Try.prog pol 23 [tpT x1 x2 u,.sl c 1 (r.map I)]=some (I (gw (grT u) (r.map Int.toNat))):=by
    intro c
    rw [hto]
    exact qh9 x1 x2 c u hok (r.map Int.toNat) (q43 u hvp.2.1) (by rw [List.length_map]; omega)
   have kA:=fun b=>q46 b hne (show r.length≤1000 by omega)
   have kL:=fun b=>q3Q b r rfl
   generalize gw (grT u) (r.map Int.toNat)=G at *
   by_cases he:endP u a b
   ·have hab:=he
    obtain ⟨⟨a1,a2⟩,⟨b1,b2⟩,_⟩:=hab
    obtain ⟨a',rfl⟩:∃ a':Nat,a=a':=⟨a.toNat,by omega⟩
    obtain ⟨b',rfl⟩:∃ b':Nat,b=b':=⟨b.toNat,by omega⟩
    rw [if_pos he] at kw
    have kS:=q2C x1 x2 u a' b' hok he
    have kQ:=q44 x1 x2 u hok a' b' (by omega) (by omega)
    generalize sepR u a' b'=S at *
    obtain ⟨s1,s2,s3⟩:=S
    simp only at kS kQ
    (repeat' first|simp only [il5c,go_sem,kW,kF,tT,m12,q12,t12,kw,kR,kC,kI,kG,kS,kQ,kA,kL,q0I,q0J]|with_reducible refine wX fun _=>?_|((with_reducible refine wY ?_ ?_); rfl)|fail)
    all_goals (cases s3 <;> rfl)
   ·rw [if_neg he] at kw
    have kS:=q3O x1 x2 u a b hok he
    (repeat' first|simp only [il5c,go_sem,kW,kF,tT,m12,q12,t12,kw,kR,kC,kI,kG,kS,kA,kL,q0I,q0J]|with_reducible refine wX fun _=>?_|((with_reducible refine wY ?_ ?_); rfl)|fail)
end Go.Proofs.Ytnjaokhdeaeegaa
namespace Go.Proofs.Ytnjaokhdeaeegaa
open Go Go.Abs
theorem qiK {n:Nat} (h:n≤maxLen):n < 9223372036854775808:=Nat.lt_of_le_of_lt h (by decide)
theorem qiL {x:T} (f:FitE Try.prog 3 x):∃ a,x=I a:=by
 obtain ⟨n0,rfl,w0⟩:=q1S (l:=.int .i64) (by kernel_rfl) (by kernel_rfl) f
 exact ⟨n0,rfl⟩
theorem ints {xs:List T} (h:∀ y∈xs,FitE Try.prog 3 y):∃ l,xs=List.map I l:=q3z (fun y hy=>qiL (h y hy))
theorem qiM {x:T} (f:FitE Try.prog 4 x):∃ a,x=B a:=by
 obtain ⟨b0,rfl⟩:=q1S (l:=.bool) (by kernel_rfl) (by kernel_rfl) f
 exact ⟨b0,rfl⟩
theorem bools {xs:List T} (h:∀ y∈xs,FitE Try.prog 4 y):∃ l,xs=List.map B l:=q3z (fun y hy=>qiM (h y hy))
theorem qiN {x:T} (f:FitE Try.prog 94 x):∃ a,x=encK a:=by
 obtain ⟨c,rfl,g⟩:=q5s (ls:=[.int .i64,.int .i64,.int .i64,.int .i64]) (by kernel_rfl) (by kernel_rfl) f
 obtain ⟨y0,q0,rfl,v0,g⟩:=q14 g
 obtain ⟨y1,q1,rfl,v1,g⟩:=q14 g
 obtain ⟨y2,q2,rfl,v2,g⟩:=q14 g
 obtain ⟨y3,q3,rfl,v3,g⟩:=q14 g
 obtain rfl:=q3e g
 obtain ⟨n0,rfl,w0⟩:=v0
 obtain ⟨n1,rfl,w1⟩:=v1
 obtain ⟨n2,rfl,w2⟩:=v2
 obtain ⟨n3,rfl,w3⟩:=v3
 exact ⟨⟨n0,n1,n2,n3⟩,rfl⟩
theorem links {xs:List T} (h:∀ y∈xs,FitE Try.prog 94 y):∃ l,xs=List.map encK l:=q3z (fun y hy=>qiN (h y hy))
end Go.Proofs.Ytnjaokhdeaeegaa
