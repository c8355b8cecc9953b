/- Part 18 of the proof of PathCuts. -/
import Derived.Test.YtnjaokhdeaeegaaC17
set_option linter.all false
set_option maxRecDepth 100000
set_option maxHeartbeats 4000000
namespace Go.Proofs.Ytnjaokhdeaeegaa
open Go Go.Abs
def SlQ (X:T) (N:List Int):Prop:=(∃ c,X=.sl c 1 (N.map I))∨(X=nilT∧N=[])
theorem q3X {c:Bool} {N:List Int}:SlQ (.sl c 1 (N.map I)) N:=.inl ⟨c,rfl⟩
theorem q24:SlQ nilT []:=.inr ⟨rfl,rfl⟩
section
variable {X:T} {N:List Int} (h:SlQ X N)
include h
theorem SlQ.len:iLen (.t X)=some (.t (I (N.length:Nat))):=by
 rcases h with ⟨c,rfl⟩|⟨rfl,rfl⟩
 ·rw [q5J,List.length_map]
 ·rfl
theorem SlQ.get {i:Nat} {n:Int} (hn:N[i]? = some n):iIdxS 1 (.t X) i=some (.t (.ip [I n])):=by
 rcases h with ⟨c,rfl⟩|⟨rfl,rfl⟩
 ·rw [ix_sl,List.getElem?_map,hn]; rfl
 ·simp at hn
theorem SlQ.sto:storable (.t X)=true:=by
 rcases h with ⟨c,rfl⟩|⟨rfl,rfl⟩ <;> rfl
end
def inR (k:Int) (N:List Int):Bool:=N.all fun n=>decide (0≤n∧n < k)
def avC (k:Int) (_:Nat) (n:Int) (V:List Nat):Ctl (List Nat) (Option (List Nat)):=if n < 0∨k≤n then .out none else .go (V++[n.toNat])
theorem q7c (k:Int):∀ (N:List Int) (i:Nat) (V:List Nat),foldC (avC k) some i N V=if inR k N=true then some (V++N.map Int.toNat) else none:=by
 intro N
 induction N with
 | nil=>intro i V; simp [foldC,inR]
 | cons n N ih =>
  intro i V
  by_cases hn:n < 0∨k≤n
  ·rw [q0y (r:=none) (by rw [avC,if_pos hn])]
   have:inR k (n::N)=false:=by
    simp only [inR,List.all_cons,Bool.and_eq_false_iff,decide_eq_false_iff_not]
    left; omega
   rw [this]; rfl
  ·rw [q0m (s':=V++[n.toNat]) (by rw [avC,if_neg hn]),ih]
   have:inR k (n::N)=inR k N:=by
    have:decide (0≤n∧n < k)=true:=decide_eq_true (by omega)
    simp only [inR,List.all_cons,this,Bool.true_and]
   rw [this]; simp
def lsA (t:Tpo) (a b:Nat) (N L:List Int) (most:Int):T :=
 if inR t.nodes N=true∧inR (t.links.length:Nat) L=true∧1≤most∧most≤8 then
  (if dp (grT t) (avA t a (N.map Int.toNat) (L.map Int.toNat)) most.toNat b=[] then .tup [nilT,I 4] else .tup [rgT (dp (grT t) (avA t a (N.map Int.toNat) (L.map Int.toNat)) most.toNat b),I 0])
 else .tup [nilT,I 2]
theorem q7d {c1 c2:Bool} {t:Tpo} {F G:List Int}:(List.drop 2 ((srC c1 c2 t F G).map AV.t)).head? = some (.t (.sl c2 4 (t.links.map encK))):=rfl
section
variable (c1 c2:Bool) (t:Tpo) (h:okT t=true)
include h
theorem q2F (a b:Nat) (he:endP t (a:Nat) (b:Nat)) {X1 X2:T} {N L:List Int} (hX1:SlQ X1 N) (hX2:SlQ X2 L) (hN:N.length≤1000) (hL:L.length≤1000) (most:Int):ans Try.prog pol 12 [tpT c1 c2 t,I (a:Nat),I (b:Nat),.agg [X1,X2],I most]=some (lsA t a b N L most):=by
 have o1:=hX1.sto
 have o2:=hX2.sto
 have x1:=hX1.len
 have x2:=hX2.len
 obtain ⟨z1,z2,z3⟩:=q0k h
 have hab:=he
 obtain ⟨⟨a1,a2⟩,⟨b1,b2⟩,hne⟩:=hab
 have k1:=q3I c1 c2 t a b h he
 have hl:=q0C (c1:=c1) (c2:=c2) (t:=t) (q09 t (frP t)) (q09 t (toP t))
 have ht:=q1F hl
 have htk:List.take 99 (srS c1 c2 t)=srS c1 c2 t:=List.take_of_length_le (by rw [hl]; exact Nat.le_refl _)
 have hs:=q0z (c1:=c1) (c2:=c2) (t:=t) (F:=endsL t (frP t)) (G:=endsL t (toP t))
 have hdr:List.drop 99 (zS99.map AV.t)=[]:=rfl
 have zB:zB12=(bsK 12 []).map B:=rfl
 have zB2:zB24=(bsK 24 []).map B:=rfl
 have sM:=fun k V=>q1Z (bsK k V)
 have lM:=fun k V=>q0U k V
 have tk:=fun (k:Nat) (V:List Nat) (n:Nat) (hn:n < k)=>@tkdr (((bsK k V).map B).map AV.t) n (.t (B true)) (by simp [q0U]; omega)
 have hset:=fun (k:Nat) (V:List Nat) (n:Nat)=>map_set (enc:=B) (l:=bsK k V) (i:=n) (x:=true)
 have hmt:=fun (k:Nat) (V:List Nat) (n:Nat)=>@q79 k V n
 have kL:=fun V W (hm:most≤8) (h1:1≤most)=>qip c1 c2 t h a b (by omega) (by omega) V W most.toNat (by omega)
 obtain ⟨nn,hnn⟩:∃ nn,2000 < nn:=⟨2001,by omega⟩
 refine q02 nn 1 il12_eq (Nat.le_of_ble_eq_true rfl) ?_
 (repeat' first|simp only [il12c,go_sem,k1,q0T,q0Z,hdr,hl,ht,hs,q15,zB,sM,lM,List.length_map,o1,o2,x1]|with_reducible refine wX fun _=>?_|((with_reducible refine wY ?_ ?_); rfl)|fail)
 refine q0r N I (step:=avC t.nodes) (fin:=some)
  (St:=fun i V e h=>(e 1=.t (I (a:Nat))∧e 2=.t (I (b:Nat))∧e 4=.t (I most)∧e 8=.t (.ip [X1,X2])∧e 12=.ref 0 1 0 0∧e 14=.ref 1 1 0 0∧e 32=.t X1∧e 33=.t (I (N.length:Nat))∧e 34=.t (I (i:Nat)))∧∃ m,m≤1∧h=[.row 99 [.t (.agg (srS c1 c2 t))] 1,.row 12 [.t (.agg ((bsK 12 V).map B))] m])
  (Ex:=fun s x e h=>(x=.ret∧s=none∧e 10=.t nilT∧e 11=.t (I 2))∨(x=.exit 0∧∃ V m,s=some V∧m≤1∧h=[.row 99 [.t (.agg (srS c1 c2 t))] 1,.row 12 [.t (.agg ((bsK 12 V).map B))] m]∧(e 1=.t (I (a:Nat))∧e 2=.t (I (b:Nat))∧e 4=.t (I most)∧e 8=.t (.ip [X1,X2])∧e 12=.ref 0 1 0 0∧e 14=.ref 1 1 0 0))) (s:=[]) (by omega) ?_ ?_ (by omega) ?_ ?_
 ·intro i n V e h' Y R hm hi hx hget hlt hw ⟨hs',m,hm',hh⟩ hk
  subst hh
  have hgx:=hX1.get hx
  unfold avC at hk
  by_cases hn:n < 0∨t.nodes≤n
  ·rw [if_pos hn,q0g] at hk
   by_cases q1:n < 0
   ·have e1:=decide_eq_true q1
    (repeat' first|simp only [il12l0_go,il12l0b,go_sem,hs',hlt,hgx,hi,e1,List.length_map]|with_reducible refine wX fun _=>?_|((with_reducible refine wY ?_ ?_); rfl)|fail)
    all_goals (refine hk _ _ _ (.inl ⟨rfl,rfl,?_,?_⟩) <;> simp only [go_sem])
   ·have e1:=decide_eq_false q1
    have e2:decide (t.nodes≤n)=true:=decide_eq_true (by omega)
    (repeat' first|simp only [il12l0_go,il12l0b,go_sem,hs',hlt,hgx,hi,e1,e2,List.length_map,q15,q3F]|with_reducible refine wX fun _=>?_|((with_reducible refine wY ?_ ?_); rfl)|fail)
    all_goals (refine hk _ _ _ (.inl ⟨rfl,rfl,?_,?_⟩) <;> simp only [go_sem])
  ·rw [if_neg hn,q08] at hk
   have e1:decide (n < 0)=false:=decide_eq_false (by omega)
   have e2:decide (t.nodes≤n)=false:=decide_eq_false (by omega)
   obtain ⟨x,rfl⟩:∃ x:Nat,n=x:=⟨n.toNat,by omega⟩
   have x12:x < 12:=by omega
   have xb:x+1≤12:=by omega
   have tkx:=tk 12 V x x12
   rw [Int.toNat_natCast] at hk
   (repeat' first|simp only [il12l0_go,il12l0b,go_sem,hs',hlt,hw,hgx,hi,e1,e2,List.length_map,q15,q3F,x12,xb,hm',tkx,hset,hmt,lM,Nat.mul_one]|with_reducible refine wX fun _=>?_|((with_reducible refine wY ?_ ?_); rfl)|fail)
   all_goals (refine hk _ _ ⟨?_,1,Nat.le_refl 1,rfl⟩; simp only [go_sem,hs',hw])
 ·intro V e h' Y R hlt ⟨hs',m,hm',hh⟩ hk
  subst hh
  (repeat' first|simp only [il12l0_go,il12l0b,go_sem,hs',hlt]|with_reducible refine wX fun _=>?_|((with_reducible refine wY ?_ ?_); rfl)|fail)
  all_goals (refine hk _ _ _ (.inr ⟨rfl,V,m,rfl,hm',rfl,?_⟩); simp only [go_sem,hs'])
 ·refine ⟨?_,0,Nat.zero_le _,rfl⟩
  simp only [go_sem,List.length_map]
 ·intro x e h' hx
  rw [q7c,List.nil_append] at hx
  rcases hx with ⟨rfl,hx,h10,h11⟩|⟨rfl,V,m,hx,hm',hh,he1⟩
  ·cases hi:inR t.nodes N with
   | true=>rw [hi,if_pos rfl] at hx; cases hx
   | false =>
    have hA:lsA t a b N L most=.tup [nilT,I 2]:=if_neg (fun k=>by rw [hi] at k; cases k.1)
    rw [hA]
    (repeat' first|simp only [il12c,go_sem,h10,h11]|with_reducible refine wX fun _=>?_|((with_reducible refine wY ?_ ?_); rfl)|fail)
  ·cases hi:inR t.nodes N with
   | false=>rw [hi,if_neg (by simp)] at hx; cases hx
   | true =>
    rw [hi,if_pos rfl,Option.some.injEq] at hx
    subst hx
    subst hh
    (repeat' first|simp only [il12c,go_sem,he1,zB2,sM,lM,List.length_map,x2]|with_reducible refine wX fun _=>?_|((with_reducible refine wY ?_ ?_); rfl)|fail)
    obtain ⟨V,hV⟩:∃ V,V=N.map Int.toNat:=⟨_,rfl⟩
    rw [← hV]
    refine q0r L I (step:=avC (t.links.length:Nat)) (fin:=some)
     (St:=fun i W e h=>(e 1=.t (I (a:Nat))∧e 2=.t (I (b:Nat))∧e 4=.t (I most)∧e 12=.ref 0 1 0 0∧e 14=.ref 1 1 0 0∧e 17=.ref 2 1 0 0∧e 51=.t X2∧e 52=.t (I (L.length:Nat))∧e 53=.t (I (i:Nat)))∧∃ m2,m2≤1∧h=[.row 99 [.t (.agg (srS c1 c2 t))] 1,.row 12 [.t (.agg ((bsK 12 V).map B))] m,.row 24 [.t (.agg ((bsK 24 W).map B))] m2])
     (Ex:=fun s x e h=>(x=.ret∧s=none∧e 10=.t nilT∧e 11=.t (I 2))∨(x=.exit 2∧∃ W m2,s=some W∧m2≤1∧h=[.row 99 [.t (.agg (srS c1 c2 t))] 1,.row 12 [.t (.agg ((bsK 12 V).map B))] m,.row 24 [.t (.agg ((bsK 24 W).map B))] m2]∧(e 1=.t (I (a:Nat))∧e 2=.t (I (b:Nat))∧e 4=.t (I most)∧e 12=.ref 0 1 0 0∧e 14=.ref 1 1 0 0∧e 17=.ref 2 1 0 0))) (s:=[]) (by omega) ?_ ?_ (by omega) ?_ ?_
    ·intro i n W e h' Y R hmn hi2 hx hget hlt hw ⟨hs',m2,hm2,hh⟩ hk
     subst hh
     have hgx:=hX2.get hx
     unfold avC at hk
     by_cases hn:n < 0∨((t.links.length:Nat):Int)≤n
     ·rw [if_pos hn,q0g] at hk
      by_cases q1:n < 0
      ·have e1:=decide_eq_true q1
       (repeat' first|simp only [il12l1_go,il12l1b,go_sem,hs',hlt,hgx,hi2,e1,List.length_map]|with_reducible refine wX fun _=>?_|((with_reducible refine wY ?_ ?_); rfl)|fail)
       all_goals (refine hk _ _ _ (.inl ⟨rfl,rfl,?_,?_⟩) <;> simp only [go_sem])
      ·have e1:=decide_eq_false q1
       have e2:decide (((t.links.length:Nat):Int)≤n)=true:=decide_eq_true (by omega)
       (repeat' first|simp only [il12l1_go,il12l1b,go_sem,hs',hlt,hgx,hi2,e1,e2,List.length_map,q7d]|with_reducible refine wX fun _=>?_|((with_reducible refine wY ?_ ?_); rfl)|fail)
       all_goals (refine hk _ _ _ (.inl ⟨rfl,rfl,?_,?_⟩) <;> simp only [go_sem])
     ·rw [if_neg hn,q08] at hk
      have e1:decide (n < 0)=false:=decide_eq_false (by omega)
      have e2:decide (((t.links.length:Nat):Int)≤n)=false:=decide_eq_false (by omega)
      obtain ⟨x,rfl⟩:∃ x:Nat,n=x:=⟨n.toNat,by omega⟩
      have x12:x < 24:=by omega
      have xb:x+1≤24:=by omega
      have tkx:=tk 24 W x x12
      rw [Int.toNat_natCast] at hk
      (repeat' first|simp only [il12l1_go,il12l1b,go_sem,hs',hlt,hw,hgx,hi2,e1,e2,List.length_map,q7d,x12,xb,hm2,tkx,hset,hmt,lM,Nat.mul_one]|with_reducible refine wX fun _=>?_|((with_reducible refine wY ?_ ?_); rfl)|fail)
      all_goals (refine hk _ _ ⟨?_,1,Nat.le_refl 1,rfl⟩; simp only [go_sem,hs',hw])
    ·intro W e h' Y R hlt ⟨hs',m2,hm2,hh⟩ hk
     subst hh
     (repeat' first|simp only [il12l1_go,il12l1b,go_sem,hs',hlt]|with_reducible refine wX fun _=>?_|((with_reducible refine wY ?_ ?_); rfl)|fail)
     all_goals (refine hk _ _ _ (.inr ⟨rfl,W,m2,rfl,hm2,rfl,?_⟩); simp only [go_sem,hs'])
    ·refine ⟨?_,0,Nat.zero_le _,rfl⟩
     simp only [go_sem,he1,List.length_map]
    ·intro x e h' hx
     rw [q7c,List.nil_append] at hx
     rcases hx with ⟨rfl,hx,h10,h11⟩|⟨rfl,W,m2,hx,hm2,hh,he2⟩
     ·cases hj:inR (t.links.length:Nat) L with
      | true=>rw [hj,if_pos rfl] at hx; cases hx
      | false =>
       have hA:lsA t a b N L most=.tup [nilT,I 2]:=if_neg (fun k=>by rw [hj] at k; cases k.2.1)
       rw [hA]
       (repeat' first|simp only [il12c,go_sem,h10,h11]|with_reducible refine wX fun _=>?_|((with_reducible refine wY ?_ ?_); rfl)|fail)
     ·cases hj:inR (t.links.length:Nat) L with
      | false=>rw [hj,if_neg (by simp)] at hx; cases hx
      | true =>
       rw [hj,if_pos rfl,Option.some.injEq] at hx
       subst hx
       subst hh
       obtain ⟨W,hW⟩:∃ W,W=L.map Int.toNat:=⟨_,rfl⟩
       rw [← hW]
       by_cases q1:most < 1
       ·have e1:=decide_eq_true q1
        have hA:lsA t a b N L most=.tup [nilT,I 2]:=if_neg (fun k=>by have:=k.2.2.1; omega)
        rw [hA]
        (repeat' first|simp only [il12c,go_sem,he2,e1]|with_reducible refine wX fun _=>?_|((with_reducible refine wY ?_ ?_); rfl)|fail)
       ·have e1:=decide_eq_false q1
        by_cases q2:8 < most
        ·have e2:=decide_eq_true q2
         have hA:lsA t a b N L most=.tup [nilT,I 2]:=if_neg (fun k=>by have:=k.2.2.2; omega)
         rw [hA]
         (repeat' first|simp only [il12c,go_sem,he2,e1,e2]|with_reducible refine wX fun _=>?_|((with_reducible refine wY ?_ ?_); rfl)|fail)
        ·have e2:=decide_eq_false q2
         have kl:=kL V W (by omega) (by omega)
         have hmm:((most.toNat:Nat):Int)=most:=by omega
         rw [hmm] at kl
         have hA:lsA t a b N L most=if dp (grT t) (avA t a V W) most.toNat b=[] then .tup [nilT,I 4] else .tup [rgT (dp (grT t) (avA t a V W) most.toNat b),I 0]:=by
          rw [hV,hW]
          exact if_pos ⟨hi,hj,by omega,by omega⟩
         rw [hA]
         have tM:=fun k V=>(List.take_of_length_le (by rw [List.length_map,List.length_map,q0U]; exact Nat.le_refl _):List.take k (((bsK k V).map B).map AV.t)=((bsK k V).map B).map AV.t)
         have tN:=fun k V=>(List.take_of_length_le (by rw [List.length_map,q0U]; exact Nat.le_refl _):List.take k ((bsK k V).map B)=(bsK k V).map B)
         by_cases q3:dp (grT t) (avA t a V W) most.toNat b=[]
         ·rw [q3] at kl
          rw [if_pos q3]
          simp only [qig] at kl
          (repeat' first|simp only [il12c,go_sem,he2,e1,e2,hl,ht,htk,hs,hm',hm2,lM,tM,tN,List.length_map,kl]|with_reducible refine wX fun _=>?_|((with_reducible refine wY ?_ ?_); rfl)|fail)
         ·rw [if_neg q3]
          have bn:=@q2E (dp (grT t) (avA t a V W) most.toNat b) q3
          rw [rN_ne q3] at kl
          (repeat' first|simp only [il12c,go_sem,he2,e1,e2,hl,ht,htk,hs,hm',hm2,lM,tM,tN,List.length_map,kl,bn]|with_reducible refine wX fun _=>?_|((with_reducible refine wY ?_ ?_); rfl)|fail)
end
end Go.Proofs.Ytnjaokhdeaeegaa
namespace Go.Proofs.Ytnjaokhdeaeegaa
open Go Go.Abs
def begN (t:Tpo) (r:List Nat):Nat:=frN t (r[0]?.getD 0)
def ndN (t:Tpo) (r:List Nat):List Nat:=begN t r::r.map (toN t)
def stpN (t:Tpo) (a:List Nat) (p:Nat):Prop:=(a=[]∨frN t p=atE (grT t) 0 a∧stA t (frN t p)=false)∧toN t p ∉ (ndN t (a++[p])).dropLast
instance (t:Tpo) (a:List Nat) (p:Nat):Decidable (stpN t a p):=inferInstanceAs (Decidable (_∧_))
def okR (t:Tpo) (r:List Nat):Prop:=∀ i p,r[i]? = some p→stpN t (r.take i) p
def vlR (t:Tpo) (r:List Nat):Prop:=Wk (grT t) (freeA (stA t) (begN t r)) (atE (grT t) 0 r) r∧(r.map (toN t)).Nodup
theorem q2G {t:Tpo} {a:List Nat} {p:Nat}:(ndN t (a++[p])).dropLast=begN t (a++[p])::a.map (toN t):=by
 rw [ndN,List.map_append,← List.cons_append,List.map_cons,List.map_nil,List.dropLast_concat]
theorem q2H {t:Tpo} {a:List Nat} {p:Nat} (h:a≠[]):begN t (a++[p])=begN t a:=by
 unfold begN
 rw [List.getElem?_append_left (List.length_pos_iff.2 h)]
theorem qiq {t:Tpo} {a:List Nat} {p:Nat}:okR t (a++[p])↔okR t a∧stpN t a p:=by
 unfold okR
 constructor
 ·intro h
  refine ⟨fun i q hi=>?_,?_⟩
  ·have hlt:=(List.getElem?_eq_some_iff.1 hi).1
   have:=h i q (by rw [List.getElem?_append_left hlt]; exact hi)
   rwa [List.take_append_of_le_length (by omega)] at this
  ·have:=h a.length p (by simp)
   rwa [List.take_left'] at this
   rfl
 ·rintro ⟨h1,h2⟩ i q hi
  by_cases hlt:i < a.length
  ·rw [List.getElem?_append_left hlt] at hi
   rw [List.take_append_of_le_length (by omega)]
   exact h1 i q hi
  ·have hl:=(List.getElem?_eq_some_iff.1 hi).1
   simp only [List.length_append,List.length_cons,List.length_nil] at hl
   obtain rfl:i=a.length:=by omega
   simp at hi
   subst hi
   rwa [List.take_left']
   rfl
theorem qir {t:Tpo} (h:okT t=true):∀ (r:List Nat),r≠[]→ptP t r→(okR t r↔vlR t r):=by
 intro r
 suffices hrev:∀ l:List Nat,l.reverse≠[]→ptP t l.reverse→(okR t l.reverse↔vlR t l.reverse) by
  have:=hrev r.reverse
  rwa [List.reverse_reverse] at this
 intro l
 induction l with
 | nil=>intro h; exact absurd rfl h
 | cons p l ih =>
  rw [List.reverse_cons]
  intro _ hp
  generalize l.reverse=a at *
  have hpp:=hp p (by simp)
  obtain ⟨p1,p2,n1,n2,n3⟩:=q0B h hpp
  rw [qiq,vlR]
  rcases Classical.em (a=[]) with rfl|hne
  ·constructor
   ·intro _
    refine ⟨?_,by simp⟩
    rw [q0N,List.nil_append]
    exact .one ⟨hpp,rfl,fun e=>n3 e.symm⟩ rfl
   ·intro _
    refine ⟨fun i q hi=>by simp at hi,.inl rfl,?_⟩
    rw [q2G]
    simp
    intro e
    exact n3 (by rw [e]; rfl)
  ·rw [ih hne (fun q hq=>hp q (by simp [hq])),q2H hne,q0N]
   constructor
   ·rintro ⟨⟨w,nd⟩,ok1,ok2⟩
    obtain ⟨e1,e2⟩:=ok1.resolve_left hne
    rw [q2G,q2H hne,List.mem_cons,not_or] at ok2
    refine ⟨.snoc (by show Wk _ _ (frN t p) a; rw [e1]; exact w) e2 rfl ⟨hpp,rfl,ok2.1⟩,?_⟩
    rw [List.map_append,List.nodup_append]
    refine ⟨nd,by simp,fun x hx y hy hxy=>?_⟩
    simp only [List.map_cons,List.map_nil,List.mem_singleton] at hy
    subst hy hxy
    exact ok2.2 hx
   ·rintro ⟨w,nd⟩
    obtain ⟨hok,_,hiv⟩:=w.inv rfl
    rw [List.map_append,List.nodup_append] at nd
    rcases hiv with ⟨k,_⟩|⟨w1,s1,_⟩
    ·exact absurd k hne
    ·have e1:frN t p=atE (grT t) 0 a:=(q3q (frm:=0) w1).symm
     have w1:Wk (grT t) (freeA (stA t) (begN t a)) (frN t p) a:=w1
     rw [e1] at w1
     refine ⟨⟨w1,nd.1⟩,.inr ⟨e1,s1⟩,?_⟩
     rw [q2G,q2H hne,List.mem_cons,not_or]
     exact ⟨hok.2.2,fun hm=>nd.2.2 _ hm (toN t p) (by simp) rfl⟩
end Go.Proofs.Ytnjaokhdeaeegaa
namespace Go.Proofs.Ytnjaokhdeaeegaa
open Go Go.Abs
def vsN (t:Tpo) (a:List Nat):List Nat:=if a=[] then [] else ndN t a
def vlC (t:Tpo) (_:Nat) (x:Int) (a:List Nat):Ctl (List Nat) Bool:=if x < 0∨((2*t.links.length:Nat):Int)≤x then .out false else if stpN t a x.toNat then .go (a++[x.toNat]) else .out false
def vldP (t:Tpo) (r:List Int):Prop:=(1≤r.length∧r.length≤8)∧(∀ x∈r,0≤x∧x < ((2*t.links.length:Nat):Int))∧okR t (r.map Int.toNat)
noncomputable def vldB (t:Tpo) (r:List Int):Bool:=@decide (vldP t r) (Classical.propDecidable _)
theorem q2I {t:Tpo} {r:List Int}:vldB t r=true↔vldP t r:=by simp [vldB]
theorem qis (t:Tpo):∀ (r:List Int) (i:Nat) (a:List Nat),okR t a→(foldC (vlC t) (fun _=>true) i r a=true↔(∀ x∈r,0≤x∧x < ((2*t.links.length:Nat):Int))∧okR t (a++r.map Int.toNat)):=by
 intro r
 induction r with
 | nil=>intro i a ha; simp [foldC,ha]
 | cons x r ih =>
  intro i a ha
  by_cases hx:x < 0∨((2*t.links.length:Nat):Int)≤x
  ·rw [q0y (r:=false) (by rw [vlC,if_pos hx])]
   constructor
   ·intro k; cases k
   ·rintro ⟨k,_⟩
    have:=k x (by simp)
    omega
  ·by_cases hs:stpN t a x.toNat
   ·rw [q0m (s':=a++[x.toNat]) (by rw [vlC,if_neg hx,if_pos hs]),ih _ _ (qiq.2 ⟨ha,hs⟩),List.append_assoc]
    constructor
    ·rintro ⟨k1,k2⟩
     refine ⟨fun y hy=>?_,k2⟩
     rcases List.mem_cons.1 hy with rfl|hy
     ·omega
     ·exact k1 y hy
    ·rintro ⟨k1,k2⟩
     exact ⟨fun y hy=>k1 y (List.mem_cons_of_mem _ hy),k2⟩
   ·rw [q0y (r:=false) (by rw [vlC,if_neg hx,if_neg hs])]
    constructor
    ·intro k; cases k
    ·rintro ⟨_,k⟩
     exfalso
     apply hs
     have:=k a.length x.toNat (by simp)
     rwa [List.take_left'] at this
     rfl
section
variable (c1 c2 c:Bool) (t:Tpo) (h:okT t=true)
include h
theorem qit (r:List Int) (hr:r.length≤1000):ans Try.prog pol 49 [srT c1 c2 t,.sl c 1 (r.map I)]=some (B (vldB t r)):=by
 obtain ⟨z1,z2,z3⟩:=q0k h
 have hsr:=q0z (c1:=c1) (c2:=c2) (t:=t) (F:=endsL t (frP t)) (G:=endsL t (toP t))
 have hl:=q0C (c1:=c1) (c2:=c2) (t:=t) (q09 t (frP t)) (q09 t (toP t))
 have htk:List.take 99 (srS c1 c2 t)=srS c1 c2 t:=List.take_of_length_le (by rw [hl]; exact Nat.le_refl _)
 have kP:=q1E c1 c2 t (endsL t (frP t)) (endsL t (toP t)) h
 have zB:zB12=(bsK 12 []).map B:=rfl
 have sM:=fun k V=>q1Z (bsK k V)
 have lM:=fun k V=>q0U k V
 by_cases h1:r.length < 1
 ·have e1:decide (((r.length:Nat):Int) < 1)=true:=decide_eq_true (by omega)
  have hA:vldB t r=false:=by rw [← Bool.not_eq_true,q2I]; intro k; have:=k.1; omega
  rw [hA]
  refine q02 1 1 il49_eq (Nat.le_of_ble_eq_true rfl) ?_
  (repeat' first|simp only [il49c,go_sem,hsr,e1,List.length_map]|with_reducible refine wX fun _=>?_|((with_reducible refine wY ?_ ?_); rfl)|fail)
 have e1:decide (((r.length:Nat):Int) < 1)=false:=decide_eq_false (by omega)
 by_cases h8:8 < r.length
 ·have e2:decide ((8:Int) < ((r.length:Nat):Int))=true:=decide_eq_true (by omega)
  have hA:vldB t r=false:=by rw [← Bool.not_eq_true,q2I]; intro k; have:=k.1; omega
  rw [hA]
  refine q02 1 1 il49_eq (Nat.le_of_ble_eq_true rfl) ?_
  (repeat' first|simp only [il49c,go_sem,hsr,e1,e2,List.length_map]|with_reducible refine wX fun _=>?_|((with_reducible refine wY ?_ ?_); rfl)|fail)
 have e2:decide ((8:Int) < ((r.length:Nat):Int))=false:=decide_eq_false (by omega)
 have hA:vldB t r=foldC (vlC t) (fun _=>true) 0 r []:=by
  rw [Bool.eq_iff_iff,q2I,qis t r 0 [] (fun i p hi=>by simp at hi),List.nil_append]
  exact ⟨fun k=>k.2,fun k=>⟨by omega,k⟩⟩
 rw [hA]
 clear hA
 obtain ⟨nn,hnn⟩:∃ nn,2000 < nn:=⟨2001,by omega⟩
 refine q02 nn 1 il49_eq (Nat.le_of_ble_eq_true rfl) ?_
 (repeat' first|simp only [il49c,go_sem,hsr,e1,e2,zB,sM,lM,List.length_map]|with_reducible refine wX fun _=>?_|((with_reducible refine wY ?_ ?_); rfl)|fail)
 refine q0r r I (step:=vlC t) (fin:=fun _=>true)
  (St:=fun i a e h=>(e 1=.t (.sl c 1 (r.map I))∧e 2=.t (.ip (srS c1 c2 t))∧e 5=.ref 0 1 0 0∧e 17=.t (.sl c 1 (r.map I))∧e 18=.t (I (r.length:Nat))∧e 19=.t (I (i:Nat)))∧(a=(r.take i).map Int.toNat∧ptP t a∧∀ x∈r.take i,0≤x)∧∃ m,m≤1∧h=[.row 12 [.t (.agg ((bsK 12 (vsN t a)).map B))] m])
  (Ex:=fun s x e h=>(x=.ret∧s=false∧e 4=.t (B false))∨(x=.exit 0∧s=true)) (s:=[]) (by omega) ?_ ?_ (by omega) ?_ ?_
 ·intro i x a e h' Y R hm hi hx hget hlt hw ⟨hs,⟨ha,hpa,hnn0⟩,m,hm1,hh⟩ hk
  subst hh
  have htake:r.take (i+1)=r.take i++[x]:=by
   rw [List.take_add_one,hx]; rfl
  unfold vlC at hk
  by_cases q0:x < 0∨((2*t.links.length:Nat):Int)≤x
  ·rw [if_pos q0,q0g] at hk
   by_cases q1:x < 0
   ·have g1:=decide_eq_true q1
    (repeat' first|simp only [il49l0_go,il49l0b,go_sem,hs,hlt,hget,hi,g1,List.length_map]|with_reducible refine wX fun _=>?_|((with_reducible refine wY ?_ ?_); rfl)|fail)
    all_goals (refine hk _ _ _ (.inl ⟨rfl,rfl,?_⟩); simp only [go_sem])
   ·have g1:=decide_eq_false q1
    have g2:decide (((2*t.links.length:Nat):Int)≤x)=true:=decide_eq_true (by omega)
    (repeat' first|simp only [il49l0_go,il49l0b,go_sem,hs,hlt,hget,hi,g1,g2,List.length_map,hl,htk,kP]|with_reducible refine wX fun _=>?_|((with_reducible refine wY ?_ ?_); rfl)|fail)
    all_goals (refine hk _ _ _ (.inl ⟨rfl,rfl,?_⟩); simp only [go_sem])
  ·rw [if_neg q0] at hk
   obtain ⟨p,rfl⟩:∃ p:Nat,x=p:=⟨x.toNat,by omega⟩
   rw [Int.toNat_natCast] at hk
   have hp:p < 2*t.links.length:=by omega
   have g1:decide (((p:Nat):Int) < 0)=false:=decide_eq_false (by omega)
   have g2:decide (((2*t.links.length:Nat):Int)≤((p:Nat):Int))=false:=decide_eq_false (by omega)
   obtain ⟨p1,p2,n1,n2,n3⟩:=q0B h hp
   have gF:=q2z (c1:=c1) (c2:=c2) (t:=t) (G:=endsL t (toP t)) (q0O (f:=frP t) z3 hp)
   have gT:=q1p (c1:=c1) (c2:=c2) (t:=t) (q09 t (frP t)) (q0O (f:=toP t) z3 hp)
   rw [p1] at gF
   rw [p2] at gT
   have h48:p < 48:=by omega
   have f12:frN t p < 12:=by omega
   have t12:toN t p < 12:=by omega
   have fb:frN t p+1≤12:=f12
   have tb:toN t p+1≤12:=t12
   have tk:=fun V (n:Nat) (hn:n < 12)=>@tkdr (((bsK 12 V).map B).map AV.t) n (.t (B true)) (by simp [q0U]; omega)
   have hset:=fun V (n:Nat)=>map_set (enc:=B) (l:=bsK 12 V) (i:=n) (x:=true)
   have hmt:=fun V (n:Nat)=>@q79 12 V n
   have gM:=fun V:List Nat=>(q1n (enc:=B) (by rw [bsK,List.getElem?_map,List.getElem?_range t12]; rfl):(((bsK 12 V).map B).map AV.t)[toN t p]? = some (.t (B (decide (toN t p∈V)))))
   have gst:(t.station.map B)[frN t p]? = some (B (stA t (frN t p))):=q20 t h n1
   have hst:frN t p < t.station.length:=by omega
   have hnd:=@q2G t a p
   have hpa2:ptP t (a++[p]):=fun q hq=>(List.mem_append.1 hq).elim (hpa q) (fun hq=>by rw [List.mem_singleton.1 hq]; exact hp)
   have hst2:a++[p]=(r.take (i+1)).map Int.toNat∧ptP t (a++[p])∧∀ x∈r.take (i+1),0≤x:=by
    rw [htake]
    refine ⟨by rw [List.map_append,← ha]; rfl,hpa2,fun y hy=>?_⟩
    rcases List.mem_append.1 hy with hy|hy
    ·exact hnn0 y hy
    ·rw [List.mem_singleton.1 hy]; omega
   have hv2:vsN t (a++[p])=(begN t (a++[p])::a.map (toN t))++[toN t p]:=by
    rw [vsN,if_neg (by simp),ndN,List.map_append]; rfl
   have hal:a.length=i:=by rw [ha,List.length_map,List.length_take]; omega
   by_cases h0:i=0
   ·have ha0:a=[]:=List.eq_nil_of_length_eq_zero (by omega)
    have g3:decide (((i:Nat):Int)=0)=true:=decide_eq_true (by omega)
    have hv:vsN t a=[]:=by rw [ha0]; rfl
    have hstp:stpN t a p:=by
     refine ⟨.inl ha0,?_⟩
     rw [hnd,ha0]
     simp
     intro e
     exact n3 (by rw [e]; rfl)
    have hnm:decide (toN t p∈[frN t p])=false:=decide_eq_false (by simp; omega)
    have gM2:=gM [frN t p]
    rw [hnm] at gM2
    rw [if_pos hstp,q08] at hk
    rw [hv]
    have hv3:vsN t (a++[p])=[frN t p,toN t p]:=by rw [hv2,ha0]; rfl
    have hmt1:(bsK 12 []).set (frN t p) true=bsK 12 [frN t p]:=hmt [] _
    have hmt2:(bsK 12 [frN t p]).set (toN t p) true=bsK 12 [frN t p,toN t p]:=hmt [frN t p] _
    (repeat' first|simp only [il49l0_go,il49l0b,go_sem,hs,hlt,hw,hget,hi,g1,g2,g3,List.length_map,hl,htk,kP,gF,gT,h48,f12,t12,fb,tb,tk,hset,hmt1,hmt2,gM2,lM,hm1,q0a,Nat.mul_one,List.drop_drop]|with_reducible refine wX fun _=>?_|((with_reducible refine wY ?_ ?_); rfl)|fail)
    all_goals (refine hk _ _ ⟨?_,hst2,1,Nat.le_refl 1,by rw [hv3]⟩; simp only [go_sem,hs,hw])
   ·have hane:a≠[]:=fun e=>h0 (by rw [← hal,e]; rfl)
    have g3:decide (((i:Nat):Int)=0)=false:=decide_eq_false (by omega)
    obtain ⟨a',q,hq⟩:∃ a' q,a=a'++[q]:=⟨a.dropLast,a.getLast hane,(List.dropLast_concat_getLast hane).symm⟩
    have hat:atE (grT t) 0 a=toN t q:=by rw [hq,q0N]; rfl
    have hqp:q < 2*t.links.length:=hpa q (by rw [hq]; simp)
    obtain ⟨y1,y2,y3,y4,y5⟩:=q0B h hqp
    have gQ:=q1p (c1:=c1) (c2:=c2) (t:=t) (q09 t (frP t)) (q0O (f:=toP t) z3 hqp)
    rw [y2] at gQ
    have q48:q < 48:=by omega
    have w1:IntKind.i64.wrap (((i:Nat):Int) - 1)=((i - 1:Nat):Int):=by rw [q00 (by omega) (by omega)]; omega
    have hi1:i - 1 < r.length:=by omega
    have hri:r[i - 1]? = some ((q:Nat):Int):=by
     have e1:a[i - 1]? = some q:=by rw [hq]; have:i - 1=a'.length:=by rw [hq] at hal; simp at hal; omega
                                    rw [this]; simp
     rw [ha,List.getElem?_map,List.getElem?_take,if_pos (by omega),List.getElem?_eq_getElem hi1] at e1
     rw [List.getElem?_eq_getElem hi1]
     simp only [Option.map_some,Option.some.injEq] at e1 ⊢
     have:=hnn0 r[i - 1] (List.mem_iff_getElem?.2 ⟨i - 1,by rw [List.getElem?_take,if_pos (by omega),List.getElem?_eq_getElem hi1]⟩)
     omega
    have gr1:(r.map I)[i - 1]? = some (I ((q:Nat):Int)):=by rw [List.getElem?_map,hri]; rfl
    have hv:vsN t a=begN t (a++[p])::a.map (toN t):=by rw [vsN,if_neg hane,q2H hane]; rfl
    have hstp:stpN t a p↔(frN t p=toN t q∧stA t (frN t p)=false)∧toN t p ∉ vsN t a:=by
     rw [hv,stpN,hnd,hat]
     exact ⟨fun k=>⟨k.1.resolve_left hane,k.2⟩,fun k=>⟨.inr k.1,k.2⟩⟩
    have hv4:vsN t (a++[p])=vsN t a++[toN t p]:=by rw [hv2,hv]
    have gM2:=gM (vsN t a)
    have hmt2:=hmt (vsN t a) (toN t p)
    generalize vsN t a=V at *
    by_cases z0:frN t p=toN t q
    ·have g4:decide (((frN t p:Nat):Int)=((toN t q:Nat):Int))=true:=decide_eq_true (by omega)
     cases z5:stA t (frN t p) with
     | true =>
      rw [z5] at gst
      rw [if_neg (fun k=>by have:=(hstp.1 k).1.2; rw [z5] at this; cases this),q0g] at hk
      (repeat' first|simp only [il49l0_go,il49l0b,go_sem,hs,hlt,hw,hget,hi,g1,g2,g3,g4,w1,hi1,gr1,List.length_map,hl,htk,kP,gF,gT,gQ,q48,h48,f12,t12,gst,hst,srC_1,lM,hm1,q0a,Nat.mul_one,List.drop_drop]|with_reducible refine wX fun _=>?_|((with_reducible refine wY ?_ ?_); rfl)|fail)
      all_goals (refine hk _ _ _ (.inl ⟨rfl,rfl,?_⟩); simp only [go_sem])
     | false =>
      rw [z5] at gst
      cases z6:decide (toN t p∈V) with
      | true =>
       rw [z6] at gM2
       rw [if_neg (fun k=>(hstp.1 k).2 (of_decide_eq_true z6)),q0g] at hk
       (repeat' first|simp only [il49l0_go,il49l0b,go_sem,hs,hlt,hw,hget,hi,g1,g2,g3,g4,w1,hi1,gr1,List.length_map,hl,htk,kP,gF,gT,gQ,q48,h48,f12,t12,gst,hst,srC_1,gM2,lM,hm1,q0a,Nat.mul_one,List.drop_drop]|with_reducible refine wX fun _=>?_|((with_reducible refine wY ?_ ?_); rfl)|fail)
       all_goals (refine hk _ _ _ (.inl ⟨rfl,rfl,?_⟩); simp only [go_sem])
      | false =>
       rw [z6] at gM2
       rw [if_pos (hstp.2 ⟨⟨z0,z5⟩,of_decide_eq_false z6⟩),q08] at hk
       (repeat' first|simp only [il49l0_go,il49l0b,go_sem,hs,hlt,hw,hget,hi,g1,g2,g3,g4,w1,hi1,gr1,List.length_map,hl,htk,kP,gF,gT,gQ,q48,h48,f12,t12,tb,tk,hset,hmt2,gst,hst,srC_1,gM2,lM,hm1,q0a,Nat.mul_one,List.drop_drop]|with_reducible refine wX fun _=>?_|((with_reducible refine wY ?_ ?_); rfl)|fail)
       all_goals (refine hk _ _ ⟨?_,hst2,1,Nat.le_refl 1,by rw [hv4]⟩; simp only [go_sem,hs,hw])
    ·have g4:decide (((frN t p:Nat):Int)=((toN t q:Nat):Int))=false:=decide_eq_false (by omega)
     rw [if_neg (fun k=>z0 (hstp.1 k).1.1),q0g] at hk
     (repeat' first|simp only [il49l0_go,il49l0b,go_sem,hs,hlt,hw,hget,hi,g1,g2,g3,g4,w1,hi1,gr1,List.length_map,hl,htk,kP,gF,gT,gQ,q48,h48,f12,t12,lM,hm1,q0a,Nat.mul_one,List.drop_drop]|with_reducible refine wX fun _=>?_|((with_reducible refine wY ?_ ?_); rfl)|fail)
     all_goals (refine hk _ _ _ (.inl ⟨rfl,rfl,?_⟩); simp only [go_sem])
 ·intro a e h' Y R hlt ⟨hs,_,m,hm1,hh⟩ hk
  subst hh
  (repeat' first|simp only [il49l0_go,il49l0b,go_sem,hs,hlt]|with_reducible refine wX fun _=>?_|((with_reducible refine wY ?_ ?_); rfl)|fail)
  all_goals exact hk _ _ _ (.inr ⟨rfl,rfl⟩)
 ·refine ⟨?_,⟨rfl,(fun p hp=>by cases hp),(fun x hx=>by simp at hx)⟩,0,Nat.zero_le _,rfl⟩
  simp only [go_sem,List.length_map]
 ·intro x e h' hx
  rcases hx with ⟨rfl,hx,h4⟩|⟨rfl,hx⟩
  ·rw [hx]
   (repeat' first|simp only [il49c,go_sem,h4]|with_reducible refine wX fun _=>?_|((with_reducible refine wY ?_ ?_); rfl)|fail)
  ·rw [hx]
   (repeat' first|simp only [il49c,go_sem]|with_reducible refine wX fun _=>?_|((with_reducible refine wY ?_ ?_); rfl)|fail)
omit h in
theorem qiu {r:List Int} {k:Int} (hr:∀ x∈r,0≤x∧x < k):r.map I=ptL (r.map Int.toNat):=by
 have e:(r.map Int.toNat).map ofN=r:=by
  induction r with
  | nil=>rfl
  | cons x r ih =>
   rw [List.map_cons,List.map_cons,ih (fun y hy=>hr y (List.mem_cons_of_mem _ hy))]
   have:=hr x (by simp)
   congr 1
   show ((x.toNat:Nat):Int)=x
   omega
 rw [ptL,e]
omit h in
theorem qiv {r:List Int} (hr:∀ x∈r,0≤x∧x < ((2*t.links.length:Nat):Int)):ptP t (r.map Int.toNat):=by
 intro p hp
 obtain ⟨x,hx,rfl⟩:=List.mem_map.1 hp
 have:=hr x hx
 omega
noncomputable def csA (t:Tpo) (r:List Int):T:=if vldB t r=true then .tup [I (gw (grT t) (r.map Int.toNat)),I 0] else .tup [I 0,I 310]
theorem qiw (r:List Int) (hr:r.length≤1000):ans Try.prog pol 20 [tpT c1 c2 t,.sl c 1 (r.map I)]=some (csA t r):=by
 have k1:=q6q c1 c2 t h
 have kv:=qit c1 c2 c t h r hr
 have hdr:List.drop 99 (zS99.map AV.t)=[]:=rfl
 have hl:=q0C (c1:=c1) (c2:=c2) (t:=t) (q09 t (frP t)) (q09 t (toP t))
 have ht:=q1F hl
 have htk:List.take 99 (srS c1 c2 t)=srS c1 c2 t:=List.take_of_length_le (by rw [hl]; exact Nat.le_refl _)
 have hs:=q0z (c1:=c1) (c2:=c2) (t:=t) (F:=endsL t (frP t)) (G:=endsL t (toP t))
 unfold csA
 cases hv:vldB t r with
 | false =>
  rw [hv] at kv
  refine q02 1 1 il20_eq (Nat.le_of_ble_eq_true rfl) ?_
  (repeat' first|simp only [il20c,go_sem,k1,q0T,q0Z,hdr,hl,ht,htk,hs,kv]|with_reducible refine wX fun _=>?_|((with_reducible refine wY ?_ ?_); rfl)|fail)
 | true =>
  rw [hv] at kv
  obtain ⟨_,v2,_⟩:=q2I.1 hv
  have kc:=q3G c1 c2 c t h (r.map Int.toNat) (qiv t v2) (by rw [List.length_map]; exact hr)
  rw [← qiu v2] at kc
  generalize gw (grT t) (r.map Int.toNat)=C at *
  refine q02 1 1 il20_eq (Nat.le_of_ble_eq_true rfl) ?_
  (repeat' first|simp only [il20c,go_sem,k1,q0T,q0Z,hdr,hl,ht,htk,hs,kv,kc]|with_reducible refine wX fun _=>?_|((with_reducible refine wY ?_ ?_); rfl)|fail)
end
end Go.Proofs.Ytnjaokhdeaeegaa
namespace Go.Proofs.Ytnjaokhdeaeegaa
open Go Go.Abs
section
variable (c1 c2:Bool) (t:Tpo) (h:okT t=true) (frm:Nat) (hf:frm < t.nodes.toNat) (node link:Int)
include h hf
end
end Go.Proofs.Ytnjaokhdeaeegaa
namespace Go.Proofs.Ytnjaokhdeaeegaa
open Go Go.Abs
section
variable (c1 c2:Bool) (t:Tpo) (h:okT t=true)
include h
end
end Go.Proofs.Ytnjaokhdeaeegaa
namespace Go.Proofs.Ytnjaokhdeaeegaa
open Go Go.Abs
def qB (G:Gr) (V W:List Nat) (most:Nat) (r:List Nat):Bool:=decide (r.length≤most) && (r.all (fun p=>!decide (p / 2∈W)) && r.dropLast.all (fun q=>!decide (G.to q∈V)))
theorem qix {G:Gr} {V W:List Nat} {most:Nat} {r:List Nat}:qB G V W most r=true↔r.length≤most∧avP G (fun n=>decide (n∈V)) (fun l=>decide (l∈W)) r:=by
 simp only [qB,Bool.and_eq_true,decide_eq_true_eq,List.all_eq_true,Bool.not_eq_true',avP]
theorem q3Y {t:Tpo} (h:okT t=true) (a b:Nat) (V W:List Nat) {most:Nat} (hm:most≤8):dp (grT t) (avA t a V W) most b=pickL (grT t) (qB (grT t) V W most) (routesL (grT t) (stA t) a b) :=
 q9B (gr_w h) (gr_x h) hm (fun r=>qix)
def meshT:Tpo:=⟨5,[false,false,false,true,true],[⟨0,1,1,5⟩,⟨1,2,1,5⟩,⟨0,2,1,20⟩,⟨3,0,1,0⟩,⟨3,1,1,0⟩,⟨4,2,1,0⟩]⟩
theorem qiy:okT meshT=true:=by decide +kernel
theorem qiz:ans Try.prog pol 33 []=some (tpT true true meshT):=q8R (n:=10) 3 (by kernel_rfl)
theorem ex1:pickL (grT meshT) (qB (grT meshT) [] [] 8) (routesL (grT meshT) (stA meshT) 3 4)=[8,2,11]:=by decide +kernel
theorem ex2:pickL (grT meshT) (qB (grT meshT) [1] [] 8) (routesL (grT meshT) (stA meshT) 3 4)=[6,4,11]:=by decide +kernel
theorem ex3:pairR (grT meshT) (routesL (grT meshT) (stA meshT) 3 2)=([8,2],[6,4]):=by decide +kernel
theorem ex4:pairR (grT meshT) (routesL (grT meshT) (stA meshT) 3 4)=([],[]):=by decide +kernel
theorem ex5:sepR meshT 3 4=(2,-1,true):=by decide +kernel
end Go.Proofs.Ytnjaokhdeaeegaa
namespace Go.Proofs.Ytnjaokhdeaeegaa
open Go Go.Abs
theorem qiA (c c':Bool) (a b:List (Int)) (hl:a.length≤1000000):ans Try.prog pol 17 [.sl c 1 (a.map I),.sl c' 1 (b.map I)]=some (B (decide (a=b))):=by
 refine q02 (a.length+1) 1 il17_eq (Nat.le_of_ble_eq_true rfl) ?_
 by_cases hlen:a.length=b.length
 ·have d0:decide ((a.length:Int)=(b.length:Int))=true:=decide_eq_true (by omega)
  (repeat' first|simp only [il17c,go_sem,d0]|with_reducible refine wX fun _=>?_|((with_reducible refine wY ?_ ?_); rfl)|fail)
  refine q0r a I (step:=fun i x (_:Unit)=>if b[i]? = some x then Ctl.go () else Ctl.out false) (fin:=fun _=>true) (St:=fun i s e h=>h=[]∧e 0=.t (.sl c 1 (a.map I))∧e 1=.t (.sl c' 1 (b.map I))∧e 12=.t (I (a.length:Nat))∧e 13=.t (I (i:Nat)))
   (Ex:=fun r x e h=>r=true∧x=.exit 0∨r=false∧x=.ret∧e 4=.t (B false)) (s:=()) (by omega) ?_ ?_ (by omega) ?_ ?_
  ·intro i x s e h Y R hm hi hx hget hlt hw ⟨h0,hs⟩ hk
   subst h0
   obtain ⟨y,hy⟩:∃ y,b[i]? = some y:=⟨b[i],by simp⟩
   have hgb:(b.map I)[i]? = some (I y):=by simp [hy]
   by_cases hxy:x=y
   ·have hd:(decide (x=y))=true:=decide_eq_true hxy
    simp only [hy,hxy,if_true,q08] at hk
    (repeat' first|simp only [il17l0_go,il17l0b,go_sem,hs,hget,hgb,hlt,hw,hd]|with_reducible refine wX fun _=>?_|((with_reducible refine wY ?_ ?_); rfl)|fail)
    all_goals (refine hk _ _ ?_; simp only [go_sem,hs,hw])
   ·have hd:(decide (x=y))=false:=decide_eq_false hxy
    rw [if_neg (by rw [hy]; intro h; exact hxy (Option.some.inj h).symm),q0g] at hk
    (repeat' first|simp only [il17l0_go,il17l0b,go_sem,hs,hget,hgb,hlt,hw,hd]|with_reducible refine wX fun _=>?_|((with_reducible refine wY ?_ ?_); rfl)|fail)
    all_goals (refine hk _ _ _ (.inr ?_); simp only [go_sem])
  ·intro s e h Y R hlt ⟨h0,hs⟩ hk
   subst h0
   (repeat' first|simp only [il17l0_go,il17l0b,go_sem,hs,hlt]|with_reducible refine wX fun _=>?_|((with_reducible refine wY ?_ ?_); rfl)|fail)
   all_goals (refine hk _ _ _ (.inl ?_); simp only [go_sem])
  ·simp only [go_sem]
  ·intro x e h hx
   rw [qgg b a 0 b (by simp) hlen] at hx
   rcases hx with ⟨hx,rfl⟩|⟨hx,rfl,e4⟩
   ·(repeat' first|simp only [il17c,go_sem,hx]|with_reducible refine wX fun _=>?_|((with_reducible refine wY ?_ ?_); rfl)|fail)
   ·(repeat' first|simp only [il17c,go_sem,e4,hx]|with_reducible refine wX fun _=>?_|((with_reducible refine wY ?_ ?_); rfl)|fail)
 ·have d0:decide ((a.length:Int)=(b.length:Int))=false:=decide_eq_false (by omega)
  have d1:decide (a=b)=false:=decide_eq_false (fun h=>hlen (by rw [h]))
  (repeat' first|simp only [il17c,go_sem,d0,d1]|with_reducible refine wX fun _=>?_|((with_reducible refine wY ?_ ?_); rfl)|fail)
theorem q2J (c c':Bool) (a b:List Nat) (hl:a.length≤1000):ans Try.prog pol 17 [.sl c 1 (ptL a),.sl c' 1 (ptL b)]=some (B (decide (a=b))):=by
 have h:=qiA c c' (a.map ofN) (b.map ofN) (by rw [List.length_map]; omega)
 have e:decide (a.map ofN=b.map ofN)=decide (a=b):=by
  rw [Bool.eq_iff_iff,decide_eq_true_eq,decide_eq_true_eq]
  exact ⟨fun h=>List.map_inj_right (fun x y h=>by have h:((x:Nat):Int)=((y:Nat):Int):=h; omega) |>.1 h,fun h=>by rw [h]⟩
 rw [e] at h
 exact h
theorem qiB:ans Try.prog pol 10 []=some (B true):=by
 have hok:=qiy
 have e34:endP meshT 3 4:=by decide +kernel
 have e32:endP meshT 3 2:=by decide +kernel
 have kM:=qiz
 have k1:ans Try.prog pol 12 [tpT true true meshT,I 3,I 4,.agg [nilT,nilT],I 8]=some (.tup [.sl false 1 (ptL [8,2,11]),I 0]):=by
  have k:=q2F true true meshT hok 3 4 e34 q24 q24 (by simp) (by simp) 8
  have e:lsA meshT 3 4 [] [] 8=.tup [rgT [8,2,11],I 0]:=by
   unfold lsA
   rw [if_pos (by decide +kernel),show (8:Int).toNat=8 from rfl,List.map_nil,q3Y hok 3 4 [] [] (Nat.le_refl 8),ex1]; rfl
  rw [e] at k
  exact k
 have k2:ans Try.prog pol 12 [tpT true true meshT,I 3,I 4,.agg [.sl true 1 [I 1],nilT],I 8]=some (.tup [.sl false 1 (ptL [6,4,11]),I 0]):=by
  have k:=q2F true true meshT hok 3 4 e34 (q3X (c:=true) (N:=[1])) q24 (by simp) (by simp) 8
  have e:lsA meshT 3 4 [1] [] 8=.tup [rgT [6,4,11],I 0]:=by
   unfold lsA
   rw [if_pos (by decide +kernel),show (8:Int).toNat=8 from rfl,List.map_nil,show List.map Int.toNat [1]=[1] from rfl,q3Y hok 3 4 [1] [] (Nat.le_refl 8),ex2]; rfl
  rw [e] at k
  exact k
 have k3:ans Try.prog pol 20 [tpT true true meshT,.sl false 1 (ptL [8,2,11])]=some (.tup [I 8,I 0]):=by
  have k:=qiw true true false meshT hok [8,2,11] (by simp)
  have hv:vldB meshT [8,2,11]=true:=by
   rw [q2I]
   refine ⟨by decide,by decide +kernel,?_⟩
   rw [qir hok _ (by simp) (by unfold ptP; decide +kernel)]
   have hm:[8,2,11]∈routesL (grT meshT) (stA meshT) 3 4:=by decide +kernel
   obtain ⟨w,nd,_⟩:=(q1j (gr_x hok)).1 hm
   have e1:begN meshT (List.map Int.toNat [8,2,11])=3:=by decide +kernel
   have e2:atE (grT meshT) 0 (List.map Int.toNat [8,2,11])=4:=by decide +kernel
   unfold vlR
   rw [e1,e2]
   exact ⟨w,nd⟩
  have e:csA meshT [8,2,11]=.tup [I 8,I 0]:=by
   unfold csA
   rw [if_pos hv,show gw (grT meshT) (List.map Int.toNat [8,2,11])=8 by decide +kernel]
  rw [e] at k
  exact k
 have k4:ans Try.prog pol 18 [tpT true true meshT,I 3,I 2]=some (.tup [.sl false 1 (ptL [8,2]),.sl false 1 (ptL [6,4]),I 0]):=by
  have k:=q77 true true meshT hok 3 2 e32
  rw [ex3] at k
  exact k
 have k5:ans Try.prog pol 18 [tpT true true meshT,I 3,I 4]=some (.tup [nilT,nilT,I 4]):=by
  have k:=q77 true true meshT hok 3 4 e34
  rw [ex4] at k
  exact k
 have k6:ans Try.prog pol 24 [tpT true true meshT,I 3,I 4]=some (.tup [.agg [I 2,I (-1)],B true,I 0]):=by
  have k:=q6C true true meshT 3 4 hok e34
  rw [ex5] at k
  exact k
 have q1:ans Try.prog pol 17 [.sl false 1 (ptL [8,2,11]),.sl true 1 [I 8,I 2,I 11]]=some (B true):=q2J false true [8,2,11] [8,2,11] (by simp)
 have q2:ans Try.prog pol 17 [.sl false 1 (ptL [6,4,11]),.sl true 1 [I 6,I 4,I 11]]=some (B true):=q2J false true [6,4,11] [6,4,11] (by simp)
 have q3:ans Try.prog pol 17 [.sl false 1 (ptL [8,2]),.sl true 1 [I 8,I 2]]=some (B true):=q2J false true [8,2] [8,2] (by simp)
 have q4:ans Try.prog pol 17 [.sl false 1 (ptL [6,4]),.sl true 1 [I 6,I 4]]=some (B true):=q2J false true [6,4] [6,4] (by simp)
 generalize ptL [8,2,11]=P1 at *
 generalize ptL [6,4,11]=P2 at *
 generalize ptL [8,2]=P3 at *
 generalize ptL [6,4]=P4 at *
 have tT:∀ t:Tpo,List.take 3 (tpC true true t)=tpC true true t:=fun _=>rfl
 refine q02 10 1 il10_eq (Nat.le_of_ble_eq_true rfl) ?_
 generalize meshT=M at *
 (repeat' first|simp only [il10c,go_sem,kM,k1,k2,k3,k4,k5,k6,q1,q2,q3,q4,tT]|with_reducible refine wX fun _=>?_|((with_reducible refine wY ?_ ?_); rfl)|fail)
 all_goals done
end Go.Proofs.Ytnjaokhdeaeegaa
namespace Go.Proofs.Ytnjaokhdeaeegaa
open Go Go.Abs
end Go.Proofs.Ytnjaokhdeaeegaa
namespace Go.Proofs.Ytnjaokhdeaeegaa
open Go Go.Abs
theorem foldC_all {f:Nat→Bool}:∀ (n i:Nat),foldC (ρ:=Bool) (fun k (_:Unit) (_:Unit)=>if f k=true then Ctl.go () else Ctl.out false) (fun _=>true) i (List.replicate n ()) ()=(List.range' i n).all f:=by
 intro n
 induction n with
 | zero=>intro i; rfl
 | succ n ih =>
  intro i
  rw [List.replicate_succ,List.range'_succ,List.all_cons]
  by_cases h:f i=true
  ·rw [q0m (s':=()) (if_pos h),ih,h,Bool.true_and]
  ·rw [q0y (r:=false) (if_neg h)]
   have:f i=false:=by simpa using h
   rw [this,Bool.false_and]
end Go.Proofs.Ytnjaokhdeaeegaa
namespace Go.Proofs.Ytnjaokhdeaeegaa
open Go Go.Abs
end Go.Proofs.Ytnjaokhdeaeegaa
namespace Go.Proofs.Ytnjaokhdeaeegaa
open Go Go.Abs
structure Dr where
 br:Int
 st:Int
 chords:List Int
 homes:List Int
 pers:List Int
 delays:List Int
abbrev drC (c1 c2 c3 c4:Bool) (d:Dr):List T:=[U8 d.br,U8 d.st,.sl c1 1 (d.chords.map U8),.sl c2 1 (d.homes.map U8),.sl c3 1 (d.pers.map U8),.sl c4 1 (d.delays.map U8)]
abbrev drT (c1 c2 c3 c4:Bool) (d:Dr):T:=.agg (drC c1 c2 c3 c4 d)
structure drP (d:Dr):Prop where
 br:0≤d.br∧d.br < 256
 st:0≤d.st∧d.st < 256
 chords:u8P d.chords
 homes:u8P d.homes
 pers:u8P d.pers
 delays:u8P d.delays
def mkK (d:Dr) (n:Nat) (a b:Int):Lk:=⟨a,b,1+pkL d.pers n % 20,pkL d.delays n % 50⟩
def jnL (L:List Lk) (a b:Int):Bool:=L.any (fun l=>decide (l.a=a∧l.b=b∨l.a=b∧l.b=a))
def wth (d:Dr) (N:Int) (st:List Bool) (L:List Lk) (a b:Int):List Lk :=
 if L.length=24∨lkR ⟨N,st,L⟩ (mkK d L.length a b)=false then L else if jnL L a b=true then L else L++[mkK d L.length a b]
theorem qiC {d:Dr} {N:Int} {st:List Bool} {L:List Lk} {a b:Int} (h:L.length≤24):(wth d N st L a b).length≤24:=by
 unfold wth
 split
 ·exact h
 ·rename_i h1
  split
  ·exact h
  ·have:L.length≠24:=fun h=>h1 (.inl h)
   simp; omega
abbrev zT3:T:=.agg [I 0,.sc (.slice none 0 0),.sc (.slice none 0 0)]
abbrev tpA (N:Int) (s q:Nat):List AV:=[.t (I N),.ms 1 s 0 s 1 false,.ms 2 q 0 q 4 false]
def hpT (N:Int) (st:List Bool) (L:List Lk) (s q mr:Nat):Heap:=[.row 3 [.t zT3] 0,.row 1 ((st.map B).map .t) 0,.row 4 ((L.map encK).map .t) 0,.row 3 [.agg (tpA N s q)] mr]
def zzT (N:Int) (s q5 m5 q8:Nat) (l:Lk):Heap:=[.row 3 [.agg (tpA N s q5)] m5,.row 3 [.agg (tpA N s q8)] 1,.row 4 [.t (lkT l)] 1]
theorem q25 (c1 c2 c3 c4:Bool) (d:Dr) (hd:drP d) (N:Int) (st:List Bool) (L:List Lk) (hst:(st.length:Int)=N) (hL:L.length≤24) (hN:N≤12) (mr:Nat) (hmr:mr≤1) (a b:Int) (dd nn:Nat) (hn:100 < nn) (Q:AV→Heap→Prop)
  (hQ:∀ q5 m5 q8 l,m5≤1→Q (.agg (tpA N st.length (wth d N st L a b).length)) (hpT N st (wth d N st L a b) st.length L.length mr++zzT N st.length q5 m5 q8 l)) :
  oB (inl Try.prog pol (ans Try.prog pol) nn (dd+1) (.fn 64) [.t (drT c1 c2 c3 c4 d),.agg (tpA N st.length L.length),.t (I a),.t (I b)] (hpT N st L st.length L.length mr)) Q:=by
 have k1:=q1o c3 d.pers L.length hd.pers
 have k2:=q1o c4 d.delays L.length hd.delays
 have b1:=q0F hd.pers L.length
 have b2:=q0F hd.delays L.length
 have t1:(pkL d.pers L.length).tmod 20=pkL d.pers L.length % 20:=Int.tmod_eq_emod_of_nonneg b1.1
 have t2:(pkL d.delays L.length).tmod 50=pkL d.delays L.length % 50:=Int.tmod_eq_emod_of_nonneg b2.1
 have v1:IntKind.i64.wrap (pkL d.pers L.length % 20)=pkL d.pers L.length % 20:=q00 (by omega) (by omega)
 have v2:IntKind.i64.wrap (pkL d.delays L.length % 50)=pkL d.delays L.length % 50:=q00 (by omega) (by omega)
 have v3:IntKind.i64.wrap (1+pkL d.pers L.length % 20)=1+pkL d.pers L.length % 20:=q00 (by omega) (by omega)
 have k3:=q6n false false ⟨N,st,L⟩ (mkK d L.length a b) hst
 simp only [mkK] at k3
 have hl1:((st.map B).map AV.t).length=st.length:=by simp
 have hl2:((L.map encK).map AV.t).length=L.length:=by simp
 have hw:wth d N st L a b=if L.length=24∨lkR ⟨N,st,L⟩ (mkK d L.length a b)=false then L else if jnL L a b=true then L else L++[mkK d L.length a b]:=rfl
 have hroom:(L.length+1)*32≤roomB:=q1m (by omega) (by omega)
 by_cases h24:L.length=24
 ·have d1:decide ((L.length:Int)=24)=true:=decide_eq_true (by omega)
  rw [hw,if_pos (.inl h24)] at hQ
  simp only [hpT,zzT] at hQ ⊢
  with_reducible refine q0e il64_eq ?_ ?_
  ·exact Nat.le_of_ble_eq_true rfl
  (repeat' first|simp only [il64c,go_sem,k1,k2,t1,t2,v1,v2,v3,d1,hmr,hl1,hl2]|with_reducible refine wX fun _=>?_|((with_reducible refine wY ?_ ?_); rfl)|fail)
  all_goals exact hQ _ _ _ (mkK d L.length a b) (by omega)
 have d1:decide ((L.length:Int)=24)=false:=decide_eq_false (by omega)
 cases hlr:lkR ⟨N,st,L⟩ (mkK d L.length a b) with
 | false =>
  rw [hw,if_pos (.inr hlr)] at hQ
  simp only [mkK] at hlr
  rw [hlr] at k3
  simp only [hpT,zzT] at hQ ⊢
  with_reducible refine q0e il64_eq ?_ ?_
  ·exact Nat.le_of_ble_eq_true rfl
  (repeat' first|simp only [il64c,go_sem,k1,k2,t1,t2,v1,v2,v3,k3,d1,hmr,hl1,hl2]|with_reducible refine wX fun _=>?_|((with_reducible refine wY ?_ ?_); rfl)|fail)
  all_goals exact hQ _ _ _ (mkK d L.length a b) (by omega)
 | true =>
  rw [hw,if_neg (by rintro (h|h); exact h24 h; rw [hlr] at h; cases h)] at hQ
  have hlr':=hlr
  simp only [mkK] at hlr'
  rw [hlr'] at k3
  have hpush:((L.map encK).map AV.t)++[.t (lkT (mkK d L.length a b))]=(((L++[mkK d L.length a b]).map encK).map AV.t):=by simp [encK]
  simp only [mkK] at hpush
  simp only [hpT,zzT] at hQ ⊢
  with_reducible refine q0e il64_eq ?_ ?_
  ·exact Nat.le_of_ble_eq_true rfl
  (repeat' first|simp only [il64c,go_sem,k1,k2,t1,t2,v1,v2,v3,k3,d1,hmr,hl1,hl2]|with_reducible refine wX fun _=>?_|((with_reducible refine wY ?_ ?_); rfl)|fail)
  refine q0r L encK (step:=fun i x (_:Unit)=>if (decide (x.a=a∧x.b=b∨x.a=b∧x.b=a))=true then Ctl.out true else Ctl.go ()) (fin:=fun _=>false)
   (St:=fun i _ e h=>(e 2=.t (I a)∧e 3=.t (I b)∧e 5=.ref 4 1 0 0∧e 8=.ref 5 1 0 0∧e 9=.t (I (L.length:Nat))∧e 10=.ref 6 1 0 0∧e 11=.t (I (i:Nat)))∧h=[.row 3 [.t zT3] 0,.row 1 ((st.map B).map .t) 0,.row 4 ((L.map encK).map .t) 0,.row 3 [.agg (tpA N st.length L.length)] mr,.row 3 [.agg (tpA N st.length L.length)] 0,.row 3 [.t zT3] 0,.row 4 [.t (lkT (mkK d L.length a b))] 1])
   (Ex:=fun r x e h=>(e 8=.ref 5 1 0 0∧(r=false→e 5=.ref 4 1 0 0∧e 10=.ref 6 1 0 0))∧(r=true∧x=.ret∧h=[.row 3 [.t zT3] 0,.row 1 ((st.map B).map .t) 0,.row 4 ((L.map encK).map .t) 0,.row 3 [.agg (tpA N st.length L.length)] mr,.row 3 [.agg (tpA N st.length L.length)] 0,.row 3 [.agg (tpA N st.length L.length)] 1,.row 4 [.t (lkT (mkK d L.length a b))] 1]∨r=false∧x=.exit 0∧h=[.row 3 [.t zT3] 0,.row 1 ((st.map B).map .t) 0,.row 4 ((L.map encK).map .t) 0,.row 3 [.agg (tpA N st.length L.length)] mr,.row 3 [.agg (tpA N st.length L.length)] 0,.row 3 [.t zT3] 0,.row 4 [.t (lkT (mkK d L.length a b))] 1])) (s:=()) (by omega) ?_ ?_ (by omega) ?_ ?_
  ·intro i x _ e h Y R' hm hi hx hget hlt hw' ⟨hs,hh⟩ hk
   subst hh
   have k4:=q6m x a b
   have gx:((L.map encK).map AV.t)[i]? = some (.t (lkT x)):=q1n (enc:=encK) hx
   by_cases hj:(x.a=a∧x.b=b∨x.a=b∧x.b=a)
   ·have dj:=decide_eq_true hj
    rw [dj] at k4
    rw [if_pos dj,q0g] at hk
    simp only [mkK] at hk ⊢
    (repeat' first|simp only [il64l0_go,il64l0b,go_sem,hs,hlt,gx,hl2,k4,hi,hmr]|with_reducible refine wX fun _=>?_|((with_reducible refine wY ?_ ?_); rfl)|fail)
    all_goals (refine hk _ _ _ ⟨⟨?_,by simp⟩,.inl ⟨by simp,rfl,rfl⟩⟩; simp only [go_sem,hs])
   ·have dj:=decide_eq_false hj
    rw [dj] at k4
    rw [if_neg (by rw [dj]; simp),q08] at hk
    simp only [mkK] at hk ⊢
    (repeat' first|simp only [il64l0_go,il64l0b,go_sem,hs,hlt,hw',gx,hl2,k4,hi,hmr]|with_reducible refine wX fun _=>?_|((with_reducible refine wY ?_ ?_); rfl)|fail)
    all_goals (refine hk _ _ ⟨?_,rfl⟩; simp only [go_sem,hs,hw'])
  ·intro _ e h Y R' hlt ⟨hs,hh⟩ hk
   subst hh
   simp only [mkK] at hk ⊢
   (repeat' first|simp only [il64l0_go,il64l0b,go_sem,hs,hlt]|with_reducible refine wX fun _=>?_|((with_reducible refine wY ?_ ?_); rfl)|fail)
   all_goals (refine hk _ _ _ ⟨⟨?_,fun _=>?_⟩,.inr ⟨by simp,rfl,rfl⟩⟩ <;> simp only [go_sem,hs,and_self])
  ·refine ⟨?_,rfl⟩
   simp only [go_sem]
  ·intro x e h ⟨⟨h8,h5⟩,hx⟩
   have hfold:∀ (l:List Lk) (k:Nat),foldC (fun i (x:Lk) (_:Unit)=>if (decide (x.a=a∧x.b=b∨x.a=b∧x.b=a))=true then Ctl.out true else Ctl.go ()) (fun _=>false) k l ()=jnL l a b:=by
    intro l
    induction l with
    | nil=>intro k; rfl
    | cons y l ih =>
     intro k
     by_cases hy:(decide (y.a=a∧y.b=b∨y.a=b∧y.b=a))=true
     ·rw [q0y (r:=true) (if_pos hy)]
      simp only [jnL,List.any_cons,hy,Bool.true_or]
     ·rw [q0m (s':=()) (if_neg hy),ih]
      have hy':(decide (y.a=a∧y.b=b∨y.a=b∧y.b=a))=false:=by simpa using hy
      simp only [jnL,List.any_cons,hy',Bool.false_or]
   rw [hfold] at hx h5
   rcases hx with ⟨hb,rfl,rfl⟩|⟨hb,rfl,rfl⟩
   ·rw [hb,if_pos rfl] at hQ
    (repeat' first|simp only [il64c,go_sem,h8]|with_reducible refine wX fun _=>?_|((with_reducible refine wY ?_ ?_); rfl)|fail)
    all_goals exact hQ _ _ _ (mkK d L.length a b) (by omega)
   ·rw [hb,if_neg (by simp)] at hQ
    obtain ⟨h5,h10⟩:=h5 hb
    simp only [List.length_append,List.length_cons,List.length_nil,mkK] at hQ
    rw [← hpush] at hQ
    (repeat' first|simp only [il64c,go_sem,h8,h5,h10,hl2,hroom,hmr]|with_reducible refine wX fun _=>?_|((with_reducible refine wY ?_ ?_); rfl)|fail)
    all_goals exact hQ _ _ _ (mkK d L.length a b) (by omega)
end Go.Proofs.Ytnjaokhdeaeegaa
namespace Go.Proofs.Ytnjaokhdeaeegaa
open Go Go.Abs
section
variable (d:Dr)
def brN:Nat:=(1+d.br % 6).toNat
def stN:Nat:=(2+d.st % 5).toNat
def dSt:List Bool:=(List.range (brN d+stN d)).map (fun n=>decide (brN d≤n))
def wD (L:List Lk) (a b:Int):List Lk:=wth d ((brN d+stN d:Nat):Int) (dSt d) L a b
def dL1:List Lk:=(List.range (brN d - 1)).foldl (fun L i=>wD d L (i:Nat) ((i+1:Nat):Int)) []
def dL2:List Lk:=(List.range (stN d)).foldl (fun L s=>wD d L ((brN d+s:Nat):Int) (pkL d.homes (2*s) % (brN d:Nat))) (dL1 d)
def dL3:List Lk:=if 2 < brN d∧d.br % 2=0 then wD d (dL2 d) ((brN d - 1:Nat):Int) 0 else dL2 d
def dL4:List Lk:=(List.range (stN d)).foldl (fun L s=>if 0 < pkL d.homes (2*s+1) % 3 then wD d L ((brN d+s:Nat):Int) (pkL d.homes (2*s+1) % (brN d:Nat)) else L) (dL3 d)
def dL5:List Lk:=(List.range (min 6 (d.chords.length / 2))).foldl (fun L i=>wD d L (pkL d.chords (2*i) % (brN d:Nat)) (pkL d.chords (2*i+1) % (brN d:Nat))) (dL4 d)
def dTopo:Tpo:=⟨((brN d+stN d:Nat):Int),dSt d,dL5 d⟩
end
theorem q1b {α:Type} {enc:α→T} {k mr:Nat} {l:List α} {h:Heap} {p:Nat→Bool}:frzObj h p (.row k ((l.map enc).map .t) mr)=some (.row k ((l.map enc).map .t) mr):=by simp only [frzObj,q2v,if_true]
theorem wD_24 {d:Dr} {L:List Lk} {a b:Int} (h:L.length≤24):(wD d L a b).length≤24:=qiC h
theorem q3Z {α:Type} {f:List Lk→α→List Lk} (hf:∀ L a,L.length≤24→(f L a).length≤24):∀ (l:List α) (L:List Lk),L.length≤24→(l.foldl f L).length≤24:=by
 intro l
 induction l with
 | nil=>intro L h; exact h
 | cons a l ih=>intro L h; exact ih _ (hf _ _ h)
theorem q2K (d:Dr):(dSt d).length=brN d+stN d:=by simp [dSt]
theorem q0K {d:Dr} (h:drP d):1≤brN d∧brN d≤6∧((brN d:Nat):Int)=1+d.br % 6:=by
 have:=h.br
 unfold brN; omega
theorem q0L {d:Dr} (h:drP d):2≤stN d∧stN d≤6∧((stN d:Nat):Int)=2+d.st % 5:=by
 have:=h.st
 unfold stN; omega
theorem q1J {σ:Type} (f:Nat→σ→σ):∀ (k i:Nat) (s:σ),foldC (ρ:=σ) (fun i (_:Unit) s=>Ctl.go (f i s)) id i (List.replicate k ()) s=(List.range' i k).foldl (fun s i=>f i s) s:=by
 intro k
 induction k with
 | zero=>intro i s; rfl
 | succ k ih=>intro i s; rw [List.replicate_succ,q0m (s':=f i s) rfl,ih,List.range'_succ,List.foldl_cons]
section
variable (c1 c2 c3 c4:Bool) (d:Dr) (hd:drP d)
abbrev eD (c1 c2 c3 c4:Bool) (d:Dr) (e:FEnv):Prop:=e 1=.t (.ip (drC c1 c2 c3 c4 d))∧e 2=.ref 0 1 0 0∧e 3=.t (I (brN d:Nat))∧e 5=.ref 3 1 0 0
include hd
theorem qiD (dd nn:Nat) (hn:100 < nn) (R:Xit→FEnv→Heap→Prop) (e:FEnv) (he:eD c1 c2 c3 c4 d e∧e 4=.t (I (stN d:Nat))∧e 6=.t (I 0))
  (hR:∀ e,eD c1 c2 c3 c4 d e∧e 4=.t (I (stN d:Nat))→R (.exit 0) e (hpT ((brN d+stN d:Nat):Int) (dSt d) [] (dSt d).length 0 1)) :
  wpIter 4 (some [1,2,3,4,5,6]) (wc Try.prog pol (ans Try.prog pol) (inl Try.prog pol (ans Try.prog pol) nn dd) nn 26 il26l0) R nn e (hpT ((brN d+stN d:Nat):Int) [] [] 0 0 1):=by
 obtain ⟨b1,b2,b3⟩:=q0K hd
 obtain ⟨s1,s2,s3⟩:=q0L hd
 refine q0D (brN d+stN d) (step:=fun i (st:List Bool)=>.go (st++[decide (brN d≤i)])) (fin:=id)
  (St:=fun i st e h=>(eD c1 c2 c3 c4 d e∧e 4=.t (I (stN d:Nat))∧e 6=.t (I (i:Nat)))∧st.length=i∧h=hpT ((brN d+stN d:Nat):Int) st [] st.length 0 1)
  (Ex:=fun st x e h=>(eD c1 c2 c3 c4 d e∧e 4=.t (I (stN d:Nat)))∧x=.exit 0∧h=hpT ((brN d+stN d:Nat):Int) st [] st.length 0 1) (s:=[]) (by omega) ?_ ?_ (by omega) ?_ ?_
 ·intro i st e h Y R hi hlt hw ⟨⟨⟨e1,e2,e3,e5⟩,e4,e6⟩,hl,hh⟩ hk
  subst hh
  simp only [q08] at hk
  have hroom:(st.length+1)*1≤roomB:=q1m (by omega) (by omega)
  have hl1:((st.map B).map AV.t).length=st.length:=by simp
  have hpush:((st.map B).map AV.t)++[.t (B (decide (brN d≤i)))]=(((st++[decide (brN d≤i)]).map B).map AV.t):=by simp
  have hd1:decide (((brN d:Nat):Int)≤(i:Nat))=decide (brN d≤i):=by congr 1; simp
  simp only [hpT] at hk ⊢
  rw [← hpush] at hk
  simp only [List.length_append,List.length_cons,List.length_nil] at hk
  (repeat' first|simp only [il26l0_go,il26l0b,go_sem,e1,e2,e3,e4,e5,e6,hlt,hw,hd1,hl1,hroom]|with_reducible refine wX fun _=>?_|((with_reducible refine wY ?_ ?_); rfl)|fail)
  all_goals (refine hk _ _ ⟨?_,by omega,?_⟩ <;> simp only [go_sem,eD,e1,e2,e3,e4,e5,e6,hw])
 ·intro st e h Y R hlt ⟨⟨⟨e1,e2,e3,e5⟩,e4,e6⟩,hl,hh⟩ hk
  subst hh
  simp only [hpT] at hk ⊢
  (repeat' first|simp only [il26l0_go,il26l0b,go_sem,e1,e2,e3,e4,e5,e6,hlt]|with_reducible refine wX fun _=>?_|((with_reducible refine wY ?_ ?_); rfl)|fail)
  all_goals (refine hk _ _ _ ⟨?_,rfl,rfl⟩; simp only [go_sem,eD,e1,e2,e3,e4,e5,e6])
 ·exact ⟨he,rfl,rfl⟩
 ·intro x e h ⟨h1,h2,h3⟩
  have hf:∀ (k i:Nat) (o:List Bool),foldC (ρ:=List Bool) (fun i (_:Unit) o=>Ctl.go (o++[decide (brN d≤i)])) id i (List.replicate k ()) o=o++(List.range' i k).map (fun n=>decide (brN d≤n)):=by
   intro k
   induction k with
   | zero=>intro i o; simp [foldC]
   | succ k ih=>intro i o; rw [List.replicate_succ,q0m (s':=o++[decide (brN d≤i)]) rfl,ih,List.range'_succ]; simp
  rw [hf,List.nil_append,← List.range_eq_range'] at h3
  subst h2 h3
  exact hR _ h1
theorem qiE (dd nn:Nat) (hn:100 < nn) (R:Xit→FEnv→Heap→Prop) (e:FEnv) (he:eD c1 c2 c3 c4 d e∧e 4=.t (I (stN d:Nat))∧e 7=.t (I 1))
  (hR:∀ e,eD c1 c2 c3 c4 d e∧e 4=.t (I (stN d:Nat))→R (.exit 2) e (hpT ((brN d+stN d:Nat):Int) (dSt d) (dL1 d) (dSt d).length (dL1 d).length 1)) :
  wpIter 4 (some [1,2,3,4,5,7]) (wc Try.prog pol (ans Try.prog pol) (inl Try.prog pol (ans Try.prog pol) nn (dd+1)) nn 26 il26l1) R nn e (hpT ((brN d+stN d:Nat):Int) (dSt d) [] (dSt d).length 0 1):=by
 obtain ⟨b1,b2,b3⟩:=q0K hd
 obtain ⟨s1,s2,s3⟩:=q0L hd
 have hst:((dSt d).length:Int)=((brN d+stN d:Nat):Int):=by rw [q2K]
 refine q0D (brN d - 1) (step:=fun i (L:List Lk)=>.go (wD d L (i:Nat) ((i+1:Nat):Int))) (fin:=id)
  (St:=fun i L e h=>(eD c1 c2 c3 c4 d e∧e 4=.t (I (stN d:Nat))∧e 7=.t (I ((i+1:Nat):Int)))∧L.length≤24∧h=hpT ((brN d+stN d:Nat):Int) (dSt d) L (dSt d).length L.length 1)
  (Ex:=fun L x e h=>(eD c1 c2 c3 c4 d e∧e 4=.t (I (stN d:Nat)))∧x=.exit 2∧h=hpT ((brN d+stN d:Nat):Int) (dSt d) L (dSt d).length L.length 1) (s:=[]) (by omega) ?_ ?_ (by omega) ?_ ?_
 ·intro i L e h Y R hi _ _ ⟨⟨⟨e1,e2,e3,e5⟩,e4,e7⟩,hl,hh⟩ hk
  subst hh
  simp only [q08] at hk
  have hlt:decide (((i+1:Nat):Int) < (brN d:Nat))=true:=decide_eq_true (by omega)
  have v1:IntKind.i64.wrap (((i+1:Nat):Int) - 1)=(i:Nat):=by rw [q00 (by omega) (by omega)]; omega
  have v2:IntKind.i64.wrap (((i+1:Nat):Int)+1)=((i+1+1:Nat):Int):=by rw [q00 (by omega) (by omega)]; omega
  have hcall:=@q25 c1 c2 c3 c4 d hd ((brN d+stN d:Nat):Int) (dSt d) L hst hl (by omega) 1 (Nat.le_refl _) (i:Nat) ((i+1:Nat):Int) dd nn hn
  have hk2:=hk
  have hl2:(wD d L (i:Nat) ((i+1:Nat):Int)).length≤24:=wD_24 hl
  change ∀ Q:AV→Heap→Prop,(∀ q5 m5 q8 l,m5≤1→Q (.agg (tpA _ (dSt d).length (wD d L (i:Nat) ((i+1:Nat):Int)).length)) (hpT _ (dSt d) (wD d L (i:Nat) ((i+1:Nat):Int)) (dSt d).length L.length 1++zzT _ (dSt d).length q5 m5 q8 l))→_ at hcall
  generalize wD d L (i:Nat) ((i+1:Nat):Int)=L2 at *
  simp only [hpT,zzT,drT,List.cons_append,List.nil_append] at hcall hk ⊢
  (repeat' first|simp only [il26l1_go,il26l1b,go_sem,e1,e2,e3,e4,e5,e7,hlt,v1,v2]|with_reducible refine wX fun _=>?_|((with_reducible refine wY ?_ ?_); rfl)|fail)
  with_reducible refine hcall _ ?_
  intro q5 m5 q8 l hm5
  (repeat' first|simp only [List.cons_append,List.nil_append,go_sem,e1,e2,e3,e4,e5,e7,v2,q1b]|with_reducible refine wX fun _=>?_|((with_reducible refine wY ?_ ?_); rfl)|fail)
  all_goals (refine hk _ _ ⟨?_,hl2,?_⟩ <;> simp only [go_sem,eD,e1,e2,e3,e4,e5,e7,v2])
 ·intro L e h Y R _ ⟨⟨⟨e1,e2,e3,e5⟩,e4,e7⟩,hl,hh⟩ hk
  subst hh
  have hlt:decide (((brN d - 1+1:Nat):Int) < (brN d:Nat))=false:=decide_eq_false (by omega)
  simp only [hpT] at hk ⊢
  (repeat' first|simp only [il26l1_go,il26l1b,go_sem,e1,e2,e3,e4,e5,e7,hlt]|with_reducible refine wX fun _=>?_|((with_reducible refine wY ?_ ?_); rfl)|fail)
  all_goals (refine hk _ _ _ ⟨?_,rfl,rfl⟩; simp only [go_sem,eD,e1,e2,e3,e4,e5,e7])
 ·exact ⟨he,Nat.zero_le _,rfl⟩
 ·intro x e h ⟨h1,h2,h3⟩
  rw [q1J (fun i L=>wD d L (i:Nat) ((i+1:Nat):Int)),← List.range_eq_range'] at h3
  subst h2 h3
  exact hR _ h1
end
end Go.Proofs.Ytnjaokhdeaeegaa
namespace Go.Proofs.Ytnjaokhdeaeegaa
open Go Go.Abs
def dg (n:Int) (L:List Lk):Int:=L.foldr (fun l s=>s+(if l.a=n then 1 else 0)+(if l.b=n then 1 else 0)) 0
theorem qiF (n:Int) (L:List Lk) (l:Lk):dg n (L++[l])=dg n L+(if l.a=n then 1 else 0)+(if l.b=n then 1 else 0):=by
 induction L with
 | nil=>simp [dg]
 | cons x L ih =>
  simp only [dg,List.cons_append,List.foldr_cons] at ih ⊢
  rw [ih]
  omega
theorem dg_mk (n:Int) (L:List Lk) (d:Dr) (k:Nat) (a b:Int):dg n (L++[mkK d k a b])=dg n L+(if a=n then 1 else 0)+(if b=n then 1 else 0):=qiF n L _
theorem qiG {n:Int} {L:List Lk} (h:∀ l∈L,l.a≠n∧l.b≠n):dg n L=0:=by
 induction L with
 | nil=>rfl
 | cons x L ih =>
  have h0:=h x (by simp)
  have:=ih (fun l hl=>h l (by simp [hl]))
  simp only [dg,List.foldr_cons] at this ⊢
  rw [this,if_neg h0.1,if_neg h0.2]; rfl
theorem qiH {N:Nat}:∀ (L:List Lk) (m:List Int),(∀ l∈L,(0≤l.a∧l.a.toNat < N)∧(0≤l.b∧l.b.toNat < N)∧l.a≠l.b)→m.length=N→∀ n:Nat,n < N→iA (L.foldl dStep m) (n:Nat)=iA m (n:Nat)+dg (n:Nat) L:=by
 intro L
 induction L with
 | nil=>intro m _ _ n _; simp [dg]
 | cons l L ih =>
  intro m hv hm n hn
  obtain ⟨⟨a0,a1⟩,⟨b0,b1⟩,hab⟩:=hv l (by simp)
  rw [List.foldl_cons,ih (dStep m l) (fun x hx=>hv x (by simp [hx])) (by simp [dStep,hm]) n hn]
  have hstep:iA (dStep m l) (n:Nat)=iA m (n:Nat)+(if l.a=(n:Nat) then 1 else 0)+(if l.b=(n:Nat) then 1 else 0):=by
   have hne:l.a.toNat≠l.b.toNat:=fun h=>hab (by omega)
   simp only [dStep,iA,Int.toNat_natCast]
   by_cases hb:l.b.toNat=n
   ·have hb':l.b=(n:Nat):=by omega
    have ha':¬ l.a=(n:Nat):=by omega
    subst hb
    rw [List.getElem?_set_self (by simp; omega),if_pos hb',if_neg ha',List.getElem?_set_ne hne]
    simp
   ·have hb':¬ l.b=(n:Nat):=by omega
    rw [List.getElem?_set_ne hb,if_neg hb']
    by_cases ha:l.a.toNat=n
    ·have ha':l.a=(n:Nat):=by omega
     subst ha
     rw [List.getElem?_set_self (by omega),if_pos ha']
     simp
    ·have ha':¬ l.a=(n:Nat):=by omega
     rw [List.getElem?_set_ne ha,if_neg ha']
     simp
  rw [hstep]
  simp only [dg,List.foldr_cons]
  omega
section
variable {d:Dr} (hd:drP d)
include hd
omit hd in
theorem q7e (n:Nat):(dSt d)[n]?.getD false=decide (brN d≤n∧n < brN d+stN d):=by
 by_cases h:n < brN d+stN d
 ·simp [dSt,h]
 ·simp [dSt,h]
def lkV (d:Dr) (l:Lk):Prop:=(0≤l.a∧l.a < ((brN d+stN d:Nat):Int))∧(0≤l.b∧l.b < ((brN d+stN d:Nat):Int))∧l.a≠l.b∧(l.a < (brN d:Nat)∨l.b < (brN d:Nat))∧(1≤l.per∧l.per≤1000)∧0≤l.delay∧l.delay≤10000
theorem q40 (L:List Lk) (l:Lk):lkR ⟨((brN d+stN d:Nat):Int),dSt d,L⟩ l=true↔lkV d l:=by
 simp only [lkR,lk1,lk2,lk4,nodeP,stA,q7e,Bool.and_eq_true,decide_eq_true_eq,Bool.not_eq_true',Bool.and_eq_false_iff,decide_eq_false_iff_not,lkV]
 constructor
 ·rintro ⟨⟨h1,h2,h3⟩,h4,h5⟩
  exact ⟨h1,h2,h3,by omega,h5⟩
 ·rintro ⟨h1,h2,h3,h4,h5⟩
  refine ⟨⟨h1,h2,h3⟩,?_,h5⟩
  omega
theorem mkK_V (n:Nat) (a b:Int):(1≤(mkK d n a b).per∧(mkK d n a b).per≤1000)∧0≤(mkK d n a b).delay∧(mkK d n a b).delay≤10000:=by
 have h1:=q0F hd.pers n
 have h2:=q0F hd.delays n
 simp only [mkK]
 omega
structure Snd (d:Dr) (L:List Lk):Prop where
 v:∀ l∈L,lkV d l
 j:L.Pairwise (fun m l=>joins l m=false)
 n:L.length≤24
theorem wD_or {L:List Lk} (h:Snd d L) (a b:Int):(wD d L a b=L∨wD d L a b=L++[mkK d L.length a b])∧Snd d (wD d L a b):=by
 unfold wD wth
 by_cases h1:L.length=24∨lkR ⟨((brN d+stN d:Nat):Int),dSt d,L⟩ (mkK d L.length a b)=false
 ·rw [if_pos h1]; exact ⟨.inl rfl,h⟩
 ·rw [if_neg h1]
  by_cases h2:jnL L a b=true
  ·rw [if_pos h2]; exact ⟨.inl rfl,h⟩
  ·rw [if_neg h2]
   have h3:lkV d (mkK d L.length a b):=by
    rw [← q40 hd L]
    cases hq:lkR ⟨((brN d+stN d:Nat):Int),dSt d,L⟩ (mkK d L.length a b) with
    | true=>rfl
    | false=>exact absurd (.inr hq) h1
   have h4:L.length≠24:=fun e=>h1 (.inl e)
   have h5:=h.n
   refine ⟨.inr rfl,fun l hl=>?_,?_,by simp; omega⟩
   ·rcases List.mem_append.1 hl with hl|hl
    ·exact h.v l hl
    ·rw [List.mem_singleton] at hl; rw [hl]; exact h3
   ·rw [List.pairwise_append]
    refine ⟨h.j,List.pairwise_singleton _ _,fun m hm l hl=>?_⟩
    rw [List.mem_singleton] at hl
    rw [hl]
    refine decide_eq_false (fun hq=>h2 ?_)
    simp only [mkK] at hq
    simp only [jnL,List.any_eq_true,decide_eq_true_eq]
    exact ⟨m,hm,by omega⟩
theorem q7f {L:List Lk} (h:L.length < 24) {a b:Int} (hv:(0≤a∧a < ((brN d+stN d:Nat):Int))∧(0≤b∧b < ((brN d+stN d:Nat):Int))∧a≠b∧(a < (brN d:Nat)∨b < (brN d:Nat))) (hj:∀ l∈L,¬ (l.a=a∧l.b=b∨l.a=b∧l.b=a)):wD d L a b=L++[mkK d L.length a b]:=by
 unfold wD wth
 have h1:lkR ⟨((brN d+stN d:Nat):Int),dSt d,L⟩ (mkK d L.length a b)=true:=by
  rw [q40 hd]
  exact ⟨hv.1,hv.2.1,hv.2.2.1,hv.2.2.2,mkK_V hd _ _ _⟩
 have h2:¬ jnL L a b=true:=by
  intro hq
  simp only [jnL,List.any_eq_true,decide_eq_true_eq] at hq
  obtain ⟨l,hl,hq⟩:=hq
  exact hj l hl hq
 rw [if_neg (by rintro (e|e); omega; rw [h1] at e; cases e),if_neg h2]
theorem qiI:Snd d (dL1 d)∧(dL1 d).length=brN d - 1∧(∀ l∈dL1 d,l.a < (brN d:Nat)∧l.b < (brN d:Nat))∧∀ i,i < brN d - 1→∃ l∈dL1 d,l.a=(i:Nat)∧l.b=((i+1:Nat):Int):=by
 obtain ⟨b1,b2,b3⟩:=q0K hd
 obtain ⟨s1,s2,s3⟩:=q0L hd
 have key:∀ k,k≤brN d - 1→Snd d ((List.range k).foldl (fun L i=>wD d L (i:Nat) ((i+1:Nat):Int)) [])∧((List.range k).foldl (fun L i=>wD d L (i:Nat) ((i+1:Nat):Int)) []).length=k ∧
   (∀ l∈(List.range k).foldl (fun L i=>wD d L (i:Nat) ((i+1:Nat):Int)) [],l.b=l.a+1∧0≤l.a∧l.a < (k:Nat))∧∀ i,i < k→∃ l∈(List.range k).foldl (fun L i=>wD d L (i:Nat) ((i+1:Nat):Int)) [],l.a=(i:Nat)∧l.b=((i+1:Nat):Int):=by
  intro k
  induction k with
  | zero=>intro _; exact ⟨⟨(fun l hl=>(by cases hl)),List.Pairwise.nil,Nat.zero_le _⟩,rfl,(fun l hl=>(by cases hl)),fun i hi=>by omega⟩
  | succ k ih =>
   intro hk
   obtain ⟨i1,i2,i3,i4⟩:=ih (by omega)
   rw [List.range_succ,List.foldl_append,List.foldl_cons,List.foldl_nil]
   generalize (List.range k).foldl (fun L i=>wD d L (i:Nat) ((i+1:Nat):Int)) []=L at *
   have hnew:=q7f hd (L:=L) (by omega) (a:=(k:Nat)) (b:=((k+1:Nat):Int)) ⟨by omega,by omega,by omega,by omega⟩ (fun l hl=>by have:=i3 l hl; omega)
   have hs:=(wD_or hd i1 (k:Nat) ((k+1:Nat):Int)).2
   rw [hnew] at hs ⊢
   refine ⟨hs,by simp [i2],fun l hl=>?_,fun i hi=>?_⟩
   ·rcases List.mem_append.1 hl with hl|hl
    ·have:=i3 l hl; omega
    ·rw [List.mem_singleton] at hl; rw [hl]; simp only [mkK]; omega
   ·by_cases hik:i=k
    ·subst hik; exact ⟨_,List.mem_append_right _ (List.mem_singleton.2 rfl),rfl,rfl⟩
    ·obtain ⟨l,h1,h2⟩:=i4 i (by omega)
     exact ⟨l,List.mem_append_left _ h1,h2⟩
 obtain ⟨k1,k2,k3,k4⟩:=key (brN d - 1) (Nat.le_refl _)
 exact ⟨k1,k2,fun l hl=>by have:=k3 l hl; omega,k4⟩
structure Lnk2 (d:Dr) (L:List Lk):Prop where
 s:Snd d L
 chain:∀ i,i < brN d - 1→∃ l∈L,l.a=(i:Nat)∧l.b=((i+1:Nat):Int)
 home:∀ s,s < stN d→∃ l∈L,l.a=((brN d+s:Nat):Int)∧(0≤l.b∧l.b < (brN d:Nat))
theorem qiJ:Lnk2 d (dL2 d)∧∀ s,s < stN d→dg ((brN d+s:Nat):Int) (dL2 d)=1:=by
 obtain ⟨b1,b2,b3⟩:=q0K hd
 obtain ⟨s1,s2,s3⟩:=q0L hd
 obtain ⟨c1,c2,c3,c4⟩:=qiI hd
 have key:∀ k,k≤stN d→Snd d ((List.range k).foldl (fun L s=>wD d L ((brN d+s:Nat):Int) (pkL d.homes (2*s) % (brN d:Nat))) (dL1 d))∧((List.range k).foldl (fun L s=>wD d L ((brN d+s:Nat):Int) (pkL d.homes (2*s) % (brN d:Nat))) (dL1 d)).length=brN d - 1+k ∧
   (∀ l∈(List.range k).foldl (fun L s=>wD d L ((brN d+s:Nat):Int) (pkL d.homes (2*s) % (brN d:Nat))) (dL1 d),l.a < ((brN d+k:Nat):Int)∧l.b < (brN d:Nat)) ∧
   (∀ i,i < brN d - 1→∃ l∈(List.range k).foldl (fun L s=>wD d L ((brN d+s:Nat):Int) (pkL d.homes (2*s) % (brN d:Nat))) (dL1 d),l.a=(i:Nat)∧l.b=((i+1:Nat):Int)) ∧
   (∀ s,s < k→∃ l∈(List.range k).foldl (fun L s=>wD d L ((brN d+s:Nat):Int) (pkL d.homes (2*s) % (brN d:Nat))) (dL1 d),l.a=((brN d+s:Nat):Int)∧(0≤l.b∧l.b < (brN d:Nat))) ∧
   ∀ s,s < k→dg ((brN d+s:Nat):Int) ((List.range k).foldl (fun L s=>wD d L ((brN d+s:Nat):Int) (pkL d.homes (2*s) % (brN d:Nat))) (dL1 d))=1:=by
  intro k
  induction k with
  | zero=>intro _; exact ⟨c1,c2,fun l hl=>by have:=c3 l hl; omega,c4,fun s hs=>by omega,fun s hs=>by omega⟩
  | succ k ih =>
   intro hk
   obtain ⟨i1,i2,i3,i4,i5,i6⟩:=ih (by omega)
   rw [List.range_succ,List.foldl_append,List.foldl_cons,List.foldl_nil]
   generalize (List.range k).foldl (fun L s=>wD d L ((brN d+s:Nat):Int) (pkL d.homes (2*s) % (brN d:Nat))) (dL1 d)=L at *
   have hm0:=Int.emod_nonneg (pkL d.homes (2*k)) (b:=((brN d:Nat):Int)) (by omega)
   have hm1:=Int.emod_lt_of_pos (pkL d.homes (2*k)) (b:=((brN d:Nat):Int)) (by omega)
   generalize pkL d.homes (2*k) % ((brN d:Nat):Int)=V at *
   have hnew:=q7f hd (L:=L) (by omega) (a:=((brN d+k:Nat):Int)) (b:=V) ⟨by omega,by omega,by omega,by omega⟩ (fun l hl=>by have:=i3 l hl; omega)
   have hs:=(wD_or hd i1 ((brN d+k:Nat):Int) V).2
   rw [hnew] at hs ⊢
   refine ⟨hs,by simp [i2]; omega,fun l hl=>?_,fun i hi=>?_,fun s hs=>?_,fun s hs=>?_⟩
   ·rcases List.mem_append.1 hl with hl|hl
    ·have:=i3 l hl; omega
    ·rw [List.mem_singleton] at hl; rw [hl]; simp only [mkK]; omega
   ·obtain ⟨l,h1,h2⟩:=i4 i hi
    exact ⟨l,List.mem_append_left _ h1,h2⟩
   ·by_cases hsk:s=k
    ·subst hsk; exact ⟨_,List.mem_append_right _ (List.mem_singleton.2 rfl),rfl,hm0,hm1⟩
    ·obtain ⟨l,h1,h2⟩:=i5 s (by omega)
     exact ⟨l,List.mem_append_left _ h1,h2⟩
   ·rw [dg_mk]
    by_cases hsk:s=k
    ·subst hsk
     rw [qiG (fun l hl=>by have:=i3 l hl; omega),if_pos rfl,if_neg (by omega)]; rfl
    ·rw [i6 s (by omega),if_neg (by omega),if_neg (by omega)]; rfl
 obtain ⟨k1,k2,k3,k4,k5,k6⟩:=key (stN d) (Nat.le_refl _)
 exact ⟨⟨k1,k4,k5⟩,k6⟩
theorem q41 {L:List Lk} (h:Lnk2 d L) (a b:Int):Lnk2 d (wD d L a b)∧∀ n,dg n L≤dg n (wD d L a b)∧dg n (wD d L a b)≤dg n L+(if a=n then 1 else 0)+(if b=n then 1 else 0):=by
 obtain ⟨h1,h2⟩:=wD_or hd h.s a b
 rcases h1 with e|e
 ·rw [e]
  refine ⟨h,fun n=>⟨Int.le_refl _,?_⟩⟩
  split <;> split <;> omega
 ·rw [e] at h2 ⊢
  refine ⟨⟨h2,fun i hi=>?_,fun s hs=>?_⟩,fun n=>?_⟩
  ·obtain ⟨l,h1,h3⟩:=h.chain i hi
   exact ⟨l,List.mem_append_left _ h1,h3⟩
  ·obtain ⟨l,h1,h3⟩:=h.home s hs
   exact ⟨l,List.mem_append_left _ h1,h3⟩
  ·rw [dg_mk]
   constructor
   ·split <;> split <;> omega
   ·omega
theorem qiK:Lnk2 d (dL5 d)∧∀ s,s < stN d→1≤dg ((brN d+s:Nat):Int) (dL5 d)∧dg ((brN d+s:Nat):Int) (dL5 d)≤2:=by
 obtain ⟨b1,b2,b3⟩:=q0K hd
 obtain ⟨s1,s2,s3⟩:=q0L hd
 obtain ⟨c1,c2⟩:=qiJ hd
 have h3:Lnk2 d (dL3 d)∧∀ s,s < stN d→dg ((brN d+s:Nat):Int) (dL3 d)=1:=by
  unfold dL3
  split
  ·obtain ⟨i1,i2⟩:=q41 hd c1 ((brN d - 1:Nat):Int) 0
   refine ⟨i1,fun s hs=>?_⟩
   have h4:=i2 ((brN d+s:Nat):Int)
   rw [c2 s hs,if_neg (by omega),if_neg (by omega)] at h4
   omega
  ·exact ⟨c1,c2⟩
 have h4:∀ k,k≤stN d→Lnk2 d ((List.range k).foldl (fun L s=>if 0 < pkL d.homes (2*s+1) % 3 then wD d L ((brN d+s:Nat):Int) (pkL d.homes (2*s+1) % (brN d:Nat)) else L) (dL3 d))∧∀ s,s < stN d→1≤dg ((brN d+s:Nat):Int) ((List.range k).foldl (fun L s=>if 0 < pkL d.homes (2*s+1) % 3 then wD d L ((brN d+s:Nat):Int) (pkL d.homes (2*s+1) % (brN d:Nat)) else L) (dL3 d))∧dg ((brN d+s:Nat):Int) ((List.range k).foldl (fun L s=>if 0 < pkL d.homes (2*s+1) % 3 then wD d L ((brN d+s:Nat):Int) (pkL d.homes (2*s+1) % (brN d:Nat)) else L) (dL3 d))≤(if s < k then 2 else 1):=by
  intro k
  induction k with
  | zero=>intro _; exact ⟨h3.1,fun s hs=>by have:=h3.2 s hs; rw [if_neg (by omega)]; simp only [List.range_zero,List.foldl_nil]; omega⟩
  | succ k ih =>
   intro hk
   obtain ⟨i1,i2⟩:=ih (by omega)
   rw [List.range_succ,List.foldl_append,List.foldl_cons,List.foldl_nil]
   generalize (List.range k).foldl (fun L s=>if 0 < pkL d.homes (2*s+1) % 3 then wD d L ((brN d+s:Nat):Int) (pkL d.homes (2*s+1) % (brN d:Nat)) else L) (dL3 d)=L at *
   have hm1:=Int.emod_lt_of_pos (pkL d.homes (2*k+1)) (b:=((brN d:Nat):Int)) (by omega)
   generalize pkL d.homes (2*k+1) % ((brN d:Nat):Int)=V at *
   by_cases hq:0 < pkL d.homes (2*k+1) % 3
   ·rw [if_pos hq]
    obtain ⟨j1,j2⟩:=q41 hd i1 ((brN d+k:Nat):Int) V
    refine ⟨j1,fun s hs=>?_⟩
    have h5:=j2 ((brN d+s:Nat):Int)
    have h6:=i2 s hs
    rw [if_neg (show ¬ V=((brN d+s:Nat):Int) by omega)] at h5
    by_cases hsk:s=k
    ·subst hsk
     rw [if_pos rfl] at h5
     rw [if_neg (by omega)] at h6
     rw [if_pos (by omega)]
     omega
    ·rw [if_neg (by omega)] at h5
     by_cases hlt:s < k
     ·rw [if_pos hlt] at h6; rw [if_pos (by omega)]; omega
     ·rw [if_neg hlt] at h6; rw [if_neg (by omega)]; omega
   ·rw [if_neg hq]
    refine ⟨i1,fun s hs=>?_⟩
    have h6:=i2 s hs
    by_cases hlt:s < k
    ·rw [if_pos hlt] at h6; rw [if_pos (by omega)]; omega
    ·rw [if_neg hlt] at h6
     split <;> omega
 have h5:∀ (l:List Nat),Lnk2 d (l.foldl (fun L i=>wD d L (pkL d.chords (2*i) % (brN d:Nat)) (pkL d.chords (2*i+1) % (brN d:Nat))) (dL4 d))∧∀ s,s < stN d→dg ((brN d+s:Nat):Int) (l.foldl (fun L i=>wD d L (pkL d.chords (2*i) % (brN d:Nat)) (pkL d.chords (2*i+1) % (brN d:Nat))) (dL4 d))=dg ((brN d+s:Nat):Int) (dL4 d):=by
  have h40:Lnk2 d (dL4 d):=(h4 (stN d) (Nat.le_refl _)).1
  intro l
  suffices hg:∀ (l:List Nat) (L:List Lk),Lnk2 d L→Lnk2 d (l.foldl (fun L i=>wD d L (pkL d.chords (2*i) % (brN d:Nat)) (pkL d.chords (2*i+1) % (brN d:Nat))) L)∧∀ s,s < stN d→dg ((brN d+s:Nat):Int) (l.foldl (fun L i=>wD d L (pkL d.chords (2*i) % (brN d:Nat)) (pkL d.chords (2*i+1) % (brN d:Nat))) L)=dg ((brN d+s:Nat):Int) L from hg l _ h40
  intro l
  induction l with
  | nil=>intro L h; exact ⟨h,fun _ _=>rfl⟩
  | cons i l ih =>
   intro L h
   rw [List.foldl_cons]
   have hm1:=Int.emod_lt_of_pos (pkL d.chords (2*i)) (b:=((brN d:Nat):Int)) (by omega)
   have hm2:=Int.emod_lt_of_pos (pkL d.chords (2*i+1)) (b:=((brN d:Nat):Int)) (by omega)
   obtain ⟨j1,j2⟩:=q41 hd h (pkL d.chords (2*i) % (brN d:Nat)) (pkL d.chords (2*i+1) % (brN d:Nat))
   obtain ⟨q1,q2⟩:=ih _ j1
   refine ⟨q1,fun s hs=>?_⟩
   rw [q2 s hs]
   have h6:=j2 ((brN d+s:Nat):Int)
   rw [if_neg (by omega),if_neg (by omega)] at h6
   omega
 obtain ⟨q1,q2⟩:=h5 (List.range (min 6 (d.chords.length / 2)))
 refine ⟨q1,fun s hs=>?_⟩
 have e1:dg ((brN d+s:Nat):Int) (dL5 d)=dg ((brN d+s:Nat):Int) (dL4 d):=q2 s hs
 have e2:=(h4 (stN d) (Nat.le_refl _)).2 s hs
 rw [if_pos hs] at e2
 rw [e1]
 exact e2
theorem qiL:okT (dTopo d)=true:=by
 obtain ⟨b1,b2,b3⟩:=q0K hd
 obtain ⟨s1,s2,s3⟩:=q0L hd
 obtain ⟨h1,h2⟩:=qiK hd
 have hsz:sizeP (dTopo d):=by
  refine ⟨?_,?_,h1.s.n⟩
  ·show 2≤((brN d+stN d:Nat):Int)∧((brN d+stN d:Nat):Int)≤12
   omega
  ·show ((dSt d).length:Int)=((brN d+stN d:Nat):Int)
   rw [q2K]
 have hsound:soundL (dTopo d)=true:=by
  rw [soundL,List.all_eq_true]
  intro i hi
  have hi:i < (dL5 d).length:=List.mem_range.1 hi
  have hl:lnk (dTopo d) i=(dL5 d)[i]:=by simp [lnk,dTopo,hi]
  have hv:=h1.s.v _ (List.getElem_mem hi)
  rw [hl]
  have hr:=(q40 hd (dL5 d) (dL5 d)[i]).2 hv
  simp only [lkR,Bool.and_eq_true] at hr
  simp only [lkOk,Bool.and_eq_true]
  refine ⟨hr.1,hr.2.1,?_,hr.2.2⟩
  rw [lk3,List.all_eq_true]
  intro m hm
  obtain ⟨j,hj,rfl⟩:=List.mem_iff_getElem.1 hm
  simp only [dTopo,List.length_take] at hj
  have hp:=List.pairwise_iff_getElem.1 h1.s.j j i (by omega) hi (by omega)
  have e:((dTopo d).links.take i)[j]=(dL5 d)[j]:=by simp [dTopo]
  rw [e,hp]; rfl
 have hends:∀ l∈(dTopo d).links,endsP (dTopo d) l:=fun l hl=>by
  have:=h1.s.v l hl
  exact ⟨this.1,this.2.1,this.2.2.1⟩
 have hdeg:degOk (dTopo d)=true:=by
  rw [degOk,List.all_eq_true]
  intro n hn
  have hn:n < brN d+stN d:=by rw [← q2K]; exact List.mem_range.1 hn
  have hst:stA (dTopo d) n=decide (brN d≤n∧n < brN d+stN d):=q7e n
  rw [hst]
  by_cases hq:brN d≤n
  ·have hdd:iA (degs (dTopo d)) (n:Nat)=dg (n:Nat) (dL5 d):=by
    have h3:=qiH (N:=brN d+stN d) (dL5 d) (List.replicate (brN d+stN d) 0) (fun l hl=>by have:=h1.s.v l hl; unfold lkV at this; omega) (by simp) n hn
    have h4:iA (List.replicate (brN d+stN d) (0:Int)) (n:Nat)=0:=by
     simp only [iA,Int.toNat_natCast,List.getElem?_replicate]
     split <;> rfl
    rw [h4,Int.zero_add] at h3
    exact h3
   have h5:=h2 (n - brN d) (by omega)
   have e:((brN d+(n - brN d):Nat):Int)=(n:Nat):=by omega
   rw [e] at h5
   rw [hdd,decide_eq_true h5]; simp
  ·have:decide (brN d≤n∧n < brN d+stN d)=false:=decide_eq_false (fun h=>hq h.1)
   rw [this]; rfl
 have hmem:∀ l∈dL5 d,(⟨l.a.toNat,l.b.toNat,0⟩:Ed)∈kEs (fun _=>false) 0 (dTopo d).links:=fun l hl=>by
  rw [q3H]
  obtain ⟨j,hj⟩:=List.mem_iff_getElem?.1 hl
  exact ⟨j,l,hj,rfl,.inl rfl⟩
 have hbr:∀ n,n < brN d→Cn (kEs (fun _=>false) 0 (dTopo d).links) n 0:=by
  intro n
  induction n with
  | zero=>intro _; exact .refl 0
  | succ n ih =>
   intro hn
   obtain ⟨l,hl,e1,e2⟩:=h1.chain n (by omega)
   have h3:=hmem l hl
   rw [e1,e2,Int.toNat_natCast,Int.toNat_natCast] at h3
   have h4:=qhb _ _ _ h3
   exact .step (e:=⟨n+1,n,0⟩) h4 (ih (by omega))
 have hall:∀ n,n < brN d+stN d→Cn (kEs (fun _=>false) 0 (dTopo d).links) n 0:=by
  intro n hn
  by_cases hq:n < brN d
  ·exact hbr n hq
  ·obtain ⟨l,hl,e1,e2⟩:=h1.home (n - brN d) (by omega)
   have h3:=hmem l hl
   rw [e1,Int.toNat_natCast,show brN d+(n - brN d)=n by omega] at h3
   have h5:=hbr l.b.toNat (by omega)
   exact .step (e:=⟨n,l.b.toNat,0⟩) h3 h5
 have hreach:¬ false∈reachL (dTopo d) 0 (fun _=>false):=by
  intro hf
  obtain ⟨n,hn⟩:=List.mem_iff_getElem?.1 hf
  have hlen:n < (reachL (dTopo d) 0 (fun _=>false)).length:=(List.getElem?_eq_some_iff.1 hn).1
  rw [q3C] at hlen
  have hN:(dTopo d).nodes.toNat=brN d+stN d:=by show ((brN d+stN d:Nat):Int).toNat=_; omega
  have:=(qhc hends (show 0 < (dTopo d).nodes.toNat by omega) hlen).2 (hall n (by omega))
  rw [hn] at this
  cases this
 simp only [okT,Bool.and_eq_true,Bool.not_eq_true',decide_eq_false_iff_not]
 exact ⟨decide_eq_true hsz,hsound,hdeg,hreach⟩
end
end Go.Proofs.Ytnjaokhdeaeegaa
namespace Go.Proofs.Ytnjaokhdeaeegaa
open Go Go.Abs
def endA (t:Tpo) (a:Int):Int:=a % t.nodes
def endB (t:Tpo) (a b:Int):Int:=if a % t.nodes=b % t.nodes then (a % t.nodes+1) % t.nodes else b % t.nodes
theorem qiM {t:Tpo} (hn:2≤t.nodes∧t.nodes≤12) (a b:Int):endP t (endA t a) (endB t a b):=by
 have ha1:=Int.emod_nonneg a (b:=t.nodes) (by omega)
 have ha2:=Int.emod_lt_of_pos a (b:=t.nodes) (by omega)
 have hb1:=Int.emod_nonneg b (b:=t.nodes) (by omega)
 have hb2:=Int.emod_lt_of_pos b (b:=t.nodes) (by omega)
 unfold endP endA endB
 generalize a % t.nodes=x at *
 generalize b % t.nodes=y at *
 split
 ·have e1:=Int.emod_nonneg (x+1) (b:=t.nodes) (by omega)
  have e2:=Int.emod_lt_of_pos (x+1) (b:=t.nodes) (by omega)
  refine ⟨⟨ha1,ha2⟩,⟨e1,e2⟩,fun e=>?_⟩
  by_cases k:x+1 < t.nodes
  ·rw [Int.emod_eq_of_lt (by omega) k] at e; omega
  ·have:x+1=t.nodes:=by omega
   rw [this,Int.emod_self] at e
   omega
 ·rename_i hne
  exact ⟨⟨ha1,ha2⟩,⟨hb1,hb2⟩,hne⟩
theorem qiN (c1 c2:Bool) (t:Tpo) (hn:2≤t.nodes∧t.nodes≤12) (a b:Int) (ha:0≤a∧a < 256) (hb:0≤b∧b < 256):ans Try.prog pol 30 [tpT c1 c2 t,U8 a,U8 b]=some (.tup [I (endA t a),I (endB t a b)]):=by
 have ha1:=Int.emod_nonneg a (b:=t.nodes) (by omega)
 have ha2:=Int.emod_lt_of_pos a (b:=t.nodes) (by omega)
 have wa:IntKind.i64.wrap a=a:=q00 (by omega) (by omega)
 have wb:IntKind.i64.wrap b=b:=q00 (by omega) (by omega)
 have ta:a.tmod t.nodes=a % t.nodes:=Int.tmod_eq_emod_of_nonneg ha.1
 have tb:b.tmod t.nodes=b % t.nodes:=Int.tmod_eq_emod_of_nonneg hb.1
 have n0:decide (t.nodes=0)=false:=decide_eq_false (by omega)
 have n0':t.nodes≠0:=by omega
 unfold endA endB
 refine q02 1 1 il30_eq (Nat.le_of_ble_eq_true rfl) ?_
 by_cases e:a % t.nodes=b % t.nodes
 ·have e1:=decide_eq_true e
  have w1:IntKind.i64.wrap (a % t.nodes+1)=a % t.nodes+1:=q00 (by omega) (by omega)
  have t1:(a % t.nodes+1).tmod t.nodes=(a % t.nodes+1) % t.nodes:=Int.tmod_eq_emod_of_nonneg (by omega)
  rw [if_pos e]
  (repeat' first|simp only [il30c,go_sem,wa,wb,ta,tb,n0,n0',e1,w1,t1]|with_reducible refine wX fun _=>?_|((with_reducible refine wY ?_ ?_); rfl)|fail)
 ·have e1:=decide_eq_false e
  rw [if_neg e]
  (repeat' first|simp only [il30c,go_sem,wa,wb,ta,tb,n0,n0',e1]|with_reducible refine wX fun _=>?_|((with_reducible refine wY ?_ ?_); rfl)|fail)
theorem q7g {q:Nat→Bool} {n i:Nat} (h:firstN q n=some i):i < n∧q i=true:=by
 have h1:=List.mem_of_find?_eq_some h
 have h2:=List.find?_some h
 exact ⟨List.mem_range.1 h1,h2⟩
theorem q7h {t:Tpo} (h:okT t=true) {a b:Nat} {V W:List Nat} {node link:Int} (hj:jnB (grT t) (stA t) a t.nodes.toNat node link b=false) (h1:∀ k,((k:Nat):Int)=node→k≠a∧k∈V) (h2:∀ k,((k:Nat):Int)=link→k∈W):dp (grT t) (avA t a V W) 8 b=[]:=by
 rw [q3Y h a b V W (Nat.le_refl 8)]
 rcases q2r (G:=grT t) (q:=qB (grT t) V W 8) (routesL (grT t) (stA t) a b) (fun r hr=>((q1j (gr_x h)).1 hr).1.nil) with k|⟨_,k1,k2,_⟩
 ·exact k.1
 ·obtain ⟨w,_,_⟩:=(q1j (gr_x h)).1 k1
  have hw:=wk_av.2 ⟨w,(qix.1 k2).2⟩
  have:=wk_jn (N:=t.nodes.toNat) (fun p hp=>(gr_N h p hp).1) hw (fun k e=>⟨(h1 k e).1,decide_eq_true (h1 k e).2⟩) (fun k e=>decide_eq_true (h2 k e))
  rw [hj] at this
  cases this
end Go.Proofs.Ytnjaokhdeaeegaa
namespace Go.Proofs.Ytnjaokhdeaeegaa
open Go Go.Abs
theorem q7i (d:Dr):(dL1 d).length≤24:=q3Z (fun L a h=>wD_24 h) _ _ (Nat.zero_le _)
theorem q42 (d:Dr):(dL2 d).length≤24:=q3Z (fun L a h=>wD_24 h) _ _ (q7i d)
theorem q43 (d:Dr):(dL3 d).length≤24:=by
 unfold dL3
 split
 ·exact wD_24 (q42 d)
 ·exact q42 d
theorem q7j (d:Dr):(dL4 d).length≤24:=q3Z (fun L a h=>by
 split
 ·exact wD_24 h
 ·exact h) _ _ (q43 d)
section
variable (c1 c2 c3 c4:Bool) (d:Dr) (hd:drP d)
include hd
theorem hst_d:((dSt d).length:Int)=((brN d+stN d:Nat):Int):=by rw [q2K]
theorem qiO (dd nn:Nat) (hn:100 < nn) (R:Xit→FEnv→Heap→Prop) (e:FEnv) (he:eD c1 c2 c3 c4 d e∧e 4=.t (I (stN d:Nat))∧e 8=.t (I 0))
  (hR:∀ e,eD c1 c2 c3 c4 d e∧e 4=.t (I (stN d:Nat))→R (.exit 4) e (hpT ((brN d+stN d:Nat):Int) (dSt d) (dL2 d) (dSt d).length (dL2 d).length 1)) :
  wpIter 4 (some [1,2,3,4,5,8]) (wc Try.prog pol (ans Try.prog pol) (inl Try.prog pol (ans Try.prog pol) nn (dd+1)) nn 26 il26l2) R nn e (hpT ((brN d+stN d:Nat):Int) (dSt d) (dL1 d) (dSt d).length (dL1 d).length 1):=by
 obtain ⟨b1,b2,b3⟩:=q0K hd
 obtain ⟨s1,s2,s3⟩:=q0L hd
 have hst:=hst_d d hd
 refine q0D (stN d) (step:=fun s (L:List Lk)=>.go (wD d L ((brN d+s:Nat):Int) (pkL d.homes (2*s) % (brN d:Nat)))) (fin:=id)
  (St:=fun i L e h=>(eD c1 c2 c3 c4 d e∧e 4=.t (I (stN d:Nat))∧e 8=.t (I (i:Nat)))∧L.length≤24∧h=hpT ((brN d+stN d:Nat):Int) (dSt d) L (dSt d).length L.length 1)
  (Ex:=fun L x e h=>(eD c1 c2 c3 c4 d e∧e 4=.t (I (stN d:Nat)))∧x=.exit 4∧h=hpT ((brN d+stN d:Nat):Int) (dSt d) L (dSt d).length L.length 1) (s:=dL1 d) (by omega) ?_ ?_ (by omega) ?_ ?_
 ·intro i L e h Y R hi hlt hw ⟨⟨⟨e1,e2,e3,e5⟩,e4,e8⟩,hl,hh⟩ hk
  subst hh
  simp only [q08] at hk
  have v1:IntKind.i64.wrap (((brN d:Nat):Int)+(i:Nat))=((brN d+i:Nat):Int):=by rw [q00 (by omega) (by omega)]; omega
  have v2:IntKind.i64.wrap (2*((i:Nat):Int))=((2*i:Nat):Int):=by rw [q00 (by omega) (by omega)]; omega
  have k1:=q1o c2 d.homes (2*i) hd.homes
  have hb:=q0F hd.homes (2*i)
  have t1:(pkL d.homes (2*i)).tmod (brN d:Nat)=pkL d.homes (2*i) % (brN d:Nat):=Int.tmod_eq_emod_of_nonneg hb.1
  have hm0:=Int.emod_nonneg (pkL d.homes (2*i)) (b:=((brN d:Nat):Int)) (by omega)
  have hm1:=Int.emod_lt_of_pos (pkL d.homes (2*i)) (b:=((brN d:Nat):Int)) (by omega)
  have v3:IntKind.i64.wrap (pkL d.homes (2*i) % (brN d:Nat))=pkL d.homes (2*i) % (brN d:Nat):=q00 (by omega) (by omega)
  have hn0:¬ (((brN d:Nat):Int)=0):=by omega
  have hcall:=@q25 c1 c2 c3 c4 d hd ((brN d+stN d:Nat):Int) (dSt d) L hst hl (by omega) 1 (Nat.le_refl _) ((brN d+i:Nat):Int) (pkL d.homes (2*i) % (brN d:Nat)) dd nn hn
  have hl2:(wD d L ((brN d+i:Nat):Int) (pkL d.homes (2*i) % (brN d:Nat))).length≤24:=wD_24 hl
  change ∀ Q:AV→Heap→Prop,(∀ q5 m5 q8 l,m5≤1→Q (.agg (tpA _ (dSt d).length (wD d L ((brN d+i:Nat):Int) (pkL d.homes (2*i) % (brN d:Nat))).length)) (hpT _ (dSt d) (wD d L ((brN d+i:Nat):Int) (pkL d.homes (2*i) % (brN d:Nat))) (dSt d).length L.length 1++zzT _ (dSt d).length q5 m5 q8 l))→_ at hcall
  generalize wD d L ((brN d+i:Nat):Int) (pkL d.homes (2*i) % (brN d:Nat))=L2 at *
  generalize pkL d.homes (2*i)=V at *
  simp only [hpT,zzT,drT,List.cons_append,List.nil_append] at hcall hk ⊢
  (repeat' first|simp only [il26l2_go,il26l2b,go_sem,e1,e2,e3,e4,e5,e8,hlt,hw,v1,v2,v3,k1,t1,hn0]|with_reducible refine wX fun _=>?_|((with_reducible refine wY ?_ ?_); rfl)|fail)
  with_reducible refine hcall _ ?_
  intro q5 m5 q8 l hm5
  (repeat' first|simp only [List.cons_append,List.nil_append,go_sem,e1,e2,e3,e4,e5,e8,hw,q1b]|with_reducible refine wX fun _=>?_|((with_reducible refine wY ?_ ?_); rfl)|fail)
  all_goals (refine hk _ _ ⟨?_,hl2,?_⟩ <;> simp only [go_sem,eD,e1,e2,e3,e4,e5,e8,hw])
 ·intro L e h Y R hlt ⟨⟨⟨e1,e2,e3,e5⟩,e4,e8⟩,hl,hh⟩ hk
  subst hh
  simp only [hpT] at hk ⊢
  (repeat' first|simp only [il26l2_go,il26l2b,go_sem,e1,e2,e3,e4,e5,e8,hlt]|with_reducible refine wX fun _=>?_|((with_reducible refine wY ?_ ?_); rfl)|fail)
  all_goals (refine hk _ _ _ ⟨?_,rfl,rfl⟩; simp only [go_sem,eD,e1,e2,e3,e4,e5,e8])
 ·exact ⟨he,q7i d,rfl⟩
 ·intro x e h ⟨h1,h2,h3⟩
  rw [q1J (fun s L=>wD d L ((brN d+s:Nat):Int) (pkL d.homes (2*s) % (brN d:Nat))),← List.range_eq_range'] at h3
  subst h2 h3
  exact hR _ h1
theorem q7k (dd nn:Nat) (hn:100 < nn) (R:Xit→FEnv→Heap→Prop) (e:FEnv) (he:eD c1 c2 c3 c4 d e∧e 4=.t (I (stN d:Nat))∧e 9=.t (I 0))
  (hR:∀ e,eD c1 c2 c3 c4 d e→R (.exit 6) e (hpT ((brN d+stN d:Nat):Int) (dSt d) (dL4 d) (dSt d).length (dL4 d).length 1)) :
  wpIter 4 (some [1,2,3,4,5,9]) (wc Try.prog pol (ans Try.prog pol) (inl Try.prog pol (ans Try.prog pol) nn (dd+1)) nn 26 il26l3) R nn e (hpT ((brN d+stN d:Nat):Int) (dSt d) (dL3 d) (dSt d).length (dL3 d).length 1):=by
 obtain ⟨b1,b2,b3⟩:=q0K hd
 obtain ⟨s1,s2,s3⟩:=q0L hd
 have hst:=hst_d d hd
 refine q0D (stN d) (step:=fun s (L:List Lk)=>.go (if 0 < pkL d.homes (2*s+1) % 3 then wD d L ((brN d+s:Nat):Int) (pkL d.homes (2*s+1) % (brN d:Nat)) else L)) (fin:=id)
  (St:=fun i L e h=>(eD c1 c2 c3 c4 d e∧e 4=.t (I (stN d:Nat))∧e 9=.t (I (i:Nat)))∧L.length≤24∧h=hpT ((brN d+stN d:Nat):Int) (dSt d) L (dSt d).length L.length 1)
  (Ex:=fun L x e h=>(eD c1 c2 c3 c4 d e)∧x=.exit 6∧h=hpT ((brN d+stN d:Nat):Int) (dSt d) L (dSt d).length L.length 1) (s:=dL3 d) (by omega) ?_ ?_ (by omega) ?_ ?_
 ·intro i L e h Y R hi hlt hw ⟨⟨⟨e1,e2,e3,e5⟩,e4,e9⟩,hl,hh⟩ hk
  subst hh
  simp only [q08] at hk
  have v1:IntKind.i64.wrap (((brN d:Nat):Int)+(i:Nat))=((brN d+i:Nat):Int):=by rw [q00 (by omega) (by omega)]; omega
  have v2:IntKind.i64.wrap (2*((i:Nat):Int))=((2*i:Nat):Int):=by rw [q00 (by omega) (by omega)]; omega
  have v4:IntKind.i64.wrap (((2*i:Nat):Int)+1)=((2*i+1:Nat):Int):=by rw [q00 (by omega) (by omega)]; omega
  have k1:=q1o c2 d.homes (2*i+1) hd.homes
  have hb:=q0F hd.homes (2*i+1)
  have t1:(pkL d.homes (2*i+1)).tmod (brN d:Nat)=pkL d.homes (2*i+1) % (brN d:Nat):=Int.tmod_eq_emod_of_nonneg hb.1
  have t2:(pkL d.homes (2*i+1)).tmod 3=pkL d.homes (2*i+1) % 3:=Int.tmod_eq_emod_of_nonneg hb.1
  have hm0:=Int.emod_nonneg (pkL d.homes (2*i+1)) (b:=((brN d:Nat):Int)) (by omega)
  have hm1:=Int.emod_lt_of_pos (pkL d.homes (2*i+1)) (b:=((brN d:Nat):Int)) (by omega)
  have v3:IntKind.i64.wrap (pkL d.homes (2*i+1) % (brN d:Nat))=pkL d.homes (2*i+1) % (brN d:Nat):=q00 (by omega) (by omega)
  have v5:IntKind.i64.wrap (pkL d.homes (2*i+1) % 3)=pkL d.homes (2*i+1) % 3:=q00 (by omega) (by omega)
  have hn0:¬ (((brN d:Nat):Int)=0):=by omega
  have hcall:=@q25 c1 c2 c3 c4 d hd ((brN d+stN d:Nat):Int) (dSt d) L hst hl (by omega) 1 (Nat.le_refl _) ((brN d+i:Nat):Int) (pkL d.homes (2*i+1) % (brN d:Nat)) dd nn hn
  have hl2:(wD d L ((brN d+i:Nat):Int) (pkL d.homes (2*i+1) % (brN d:Nat))).length≤24:=wD_24 hl
  change ∀ Q:AV→Heap→Prop,(∀ q5 m5 q8 l,m5≤1→Q (.agg (tpA _ (dSt d).length (wD d L ((brN d+i:Nat):Int) (pkL d.homes (2*i+1) % (brN d:Nat))).length)) (hpT _ (dSt d) (wD d L ((brN d+i:Nat):Int) (pkL d.homes (2*i+1) % (brN d:Nat))) (dSt d).length L.length 1++zzT _ (dSt d).length q5 m5 q8 l))→_ at hcall
  generalize wD d L ((brN d+i:Nat):Int) (pkL d.homes (2*i+1) % (brN d:Nat))=L2 at *
  generalize pkL d.homes (2*i+1)=V at *
  simp only [hpT,zzT,drT,List.cons_append,List.nil_append] at hcall hk ⊢
  by_cases hq:0 < V % 3
  ·have d1:=decide_eq_true hq
   rw [if_pos hq] at hk
   (repeat' first|simp only [il26l3_go,il26l3b,go_sem,e1,e2,e3,e4,e5,e9,hlt,hw,v1,v2,v3,v4,v5,k1,t1,t2,hn0,d1]|with_reducible refine wX fun _=>?_|((with_reducible refine wY ?_ ?_); rfl)|fail)
   with_reducible refine hcall _ ?_
   intro q5 m5 q8 l hm5
   (repeat' first|simp only [List.cons_append,List.nil_append,go_sem,e1,e2,e3,e4,e5,e9,hw,q1b]|with_reducible refine wX fun _=>?_|((with_reducible refine wY ?_ ?_); rfl)|fail)
   all_goals (refine hk _ _ ⟨?_,hl2,?_⟩ <;> simp only [go_sem,eD,e1,e2,e3,e4,e5,e9,hw])
  ·have d1:=decide_eq_false hq
   rw [if_neg hq] at hk
   (repeat' first|simp only [il26l3_go,il26l3b,go_sem,e1,e2,e3,e4,e5,e9,hlt,hw,v1,v2,v3,v4,v5,k1,t1,t2,hn0,d1,q1b]|with_reducible refine wX fun _=>?_|((with_reducible refine wY ?_ ?_); rfl)|fail)
   all_goals (refine hk _ _ ⟨?_,hl,?_⟩ <;> simp only [go_sem,eD,e1,e2,e3,e4,e5,e9,hw])
 ·intro L e h Y R hlt ⟨⟨⟨e1,e2,e3,e5⟩,e4,e9⟩,hl,hh⟩ hk
  subst hh
  simp only [hpT] at hk ⊢
  (repeat' first|simp only [il26l3_go,il26l3b,go_sem,e1,e2,e3,e4,e5,e9,hlt]|with_reducible refine wX fun _=>?_|((with_reducible refine wY ?_ ?_); rfl)|fail)
  all_goals (refine hk _ _ _ ⟨?_,rfl,rfl⟩; simp only [go_sem,eD,e1,e2,e3,e4,e5,e9])
 ·exact ⟨he,q43 d,rfl⟩
 ·intro x e h ⟨h1,h2,h3⟩
  rw [q1J (fun s L=>if 0 < pkL d.homes (2*s+1) % 3 then wD d L ((brN d+s:Nat):Int) (pkL d.homes (2*s+1) % (brN d:Nat)) else L),← List.range_eq_range'] at h3
  subst h2 h3
  exact hR _ h1
theorem q7l (dd nn:Nat) (hn:100 < nn) (R:Xit→FEnv→Heap→Prop) (e:FEnv) (he:eD c1 c2 c3 c4 d e∧e 10=.t (I 0))
  (hR:∀ e,eD c1 c2 c3 c4 d e→R (.exit 8) e (hpT ((brN d+stN d:Nat):Int) (dSt d) (dL5 d) (dSt d).length (dL5 d).length 1)) :
  wpIter 4 (some [1,2,3,5,10]) (wc Try.prog pol (ans Try.prog pol) (inl Try.prog pol (ans Try.prog pol) nn (dd+1)) nn 26 il26l4) R nn e (hpT ((brN d+stN d:Nat):Int) (dSt d) (dL4 d) (dSt d).length (dL4 d).length 1):=by
 obtain ⟨b1,b2,b3⟩:=q0K hd
 obtain ⟨s1,s2,s3⟩:=q0L hd
 have hst:=hst_d d hd
 have hch:=hd.chords.2
 refine q0D (min 6 (d.chords.length / 2)) (step:=fun i (L:List Lk)=>.go (wD d L (pkL d.chords (2*i) % (brN d:Nat)) (pkL d.chords (2*i+1) % (brN d:Nat)))) (fin:=id)
  (St:=fun i L e h=>(eD c1 c2 c3 c4 d e∧e 10=.t (I ((2*i:Nat):Int)))∧L.length≤24∧h=hpT ((brN d+stN d:Nat):Int) (dSt d) L (dSt d).length L.length 1)
  (Ex:=fun L x e h=>(eD c1 c2 c3 c4 d e)∧x=.exit 8∧h=hpT ((brN d+stN d:Nat):Int) (dSt d) L (dSt d).length L.length 1) (s:=dL4 d) (by omega) ?_ ?_ (by omega) ?_ ?_
 ·intro i L e h Y R hi _ _ ⟨⟨⟨e1,e2,e3,e5⟩,e10⟩,hl,hh⟩ hk
  subst hh
  simp only [q08] at hk
  have v1:IntKind.i64.wrap (((2*i:Nat):Int)+1)=((2*i+1:Nat):Int):=by rw [q00 (by omega) (by omega)]; omega
  have v2:IntKind.i64.wrap (((2*i:Nat):Int)+2)=((2*(i+1):Nat):Int):=by rw [q00 (by omega) (by omega)]; omega
  have d1:decide (((2*i+1:Nat):Int) < (d.chords.length:Nat))=true:=decide_eq_true (by omega)
  have d2:decide (((2*i:Nat):Int) < 12)=true:=decide_eq_true (by omega)
  have hb1:=q0F hd.chords (2*i)
  have hb2:=q0F hd.chords (2*i+1)
  have g1:(d.chords.map U8)[2*i]? = some (U8 (pkL d.chords (2*i))):=by simp [pkL,show 2*i < d.chords.length by omega]
  have g2:(d.chords.map U8)[2*i+1]? = some (U8 (pkL d.chords (2*i+1))):=by simp [pkL,show 2*i+1 < d.chords.length by omega]
  have q1:2*i < d.chords.length:=by omega
  have q2:2*i+1 < d.chords.length:=by omega
  have t1:(pkL d.chords (2*i)).tmod (brN d:Nat)=pkL d.chords (2*i) % (brN d:Nat):=Int.tmod_eq_emod_of_nonneg hb1.1
  have t2:(pkL d.chords (2*i+1)).tmod (brN d:Nat)=pkL d.chords (2*i+1) % (brN d:Nat):=Int.tmod_eq_emod_of_nonneg hb2.1
  have u1:IntKind.i64.wrap (pkL d.chords (2*i))=pkL d.chords (2*i):=q00 (by omega) (by omega)
  have u2:IntKind.i64.wrap (pkL d.chords (2*i+1))=pkL d.chords (2*i+1):=q00 (by omega) (by omega)
  have m1:=Int.emod_nonneg (pkL d.chords (2*i)) (b:=((brN d:Nat):Int)) (by omega)
  have m2:=Int.emod_lt_of_pos (pkL d.chords (2*i)) (b:=((brN d:Nat):Int)) (by omega)
  have m3:=Int.emod_nonneg (pkL d.chords (2*i+1)) (b:=((brN d:Nat):Int)) (by omega)
  have m4:=Int.emod_lt_of_pos (pkL d.chords (2*i+1)) (b:=((brN d:Nat):Int)) (by omega)
  have v3:IntKind.i64.wrap (pkL d.chords (2*i) % (brN d:Nat))=pkL d.chords (2*i) % (brN d:Nat):=q00 (by omega) (by omega)
  have v4:IntKind.i64.wrap (pkL d.chords (2*i+1) % (brN d:Nat))=pkL d.chords (2*i+1) % (brN d:Nat):=q00 (by omega) (by omega)
  have hn0:¬ (((brN d:Nat):Int)=0):=by omega
  have hcall:=@q25 c1 c2 c3 c4 d hd ((brN d+stN d:Nat):Int) (dSt d) L hst hl (by omega) 1 (Nat.le_refl _) (pkL d.chords (2*i) % (brN d:Nat)) (pkL d.chords (2*i+1) % (brN d:Nat)) dd nn hn
  have hl2:(wD d L (pkL d.chords (2*i) % (brN d:Nat)) (pkL d.chords (2*i+1) % (brN d:Nat))).length≤24:=wD_24 hl
  change ∀ Q:AV→Heap→Prop,(∀ q5 m5 q8 l,m5≤1→Q (.agg (tpA _ (dSt d).length (wD d L (pkL d.chords (2*i) % (brN d:Nat)) (pkL d.chords (2*i+1) % (brN d:Nat))).length)) (hpT _ (dSt d) (wD d L (pkL d.chords (2*i) % (brN d:Nat)) (pkL d.chords (2*i+1) % (brN d:Nat))) (dSt d).length L.length 1++zzT _ (dSt d).length q5 m5 q8 l))→_ at hcall
  generalize wD d L (pkL d.chords (2*i) % (brN d:Nat)) (pkL d.chords (2*i+1) % (brN d:Nat))=L2 at *
  generalize pkL d.chords (2*i)=V1 at *
  generalize pkL d.chords (2*i+1)=V2 at *
  simp only [hpT,zzT,drT,List.cons_append,List.nil_append] at hcall hk ⊢
  (repeat' first|simp only [il26l4_go,il26l4b,go_sem,e1,e2,e3,e5,e10,v1,v2,v3,v4,u1,u2,d1,d2,g1,g2,q1,q2,t1,t2,hn0]|with_reducible refine wX fun _=>?_|((with_reducible refine wY ?_ ?_); rfl)|fail)
  with_reducible refine hcall _ ?_
  intro q5 m5 q8 l hm5
  (repeat' first|simp only [List.cons_append,List.nil_append,go_sem,e1,e2,e3,e5,e10,v2,q1b]|with_reducible refine wX fun _=>?_|((with_reducible refine wY ?_ ?_); rfl)|fail)
  all_goals (refine hk _ _ ⟨?_,hl2,?_⟩ <;> simp only [go_sem,eD,e1,e2,e3,e5,e10,v2])
 ·intro L e h Y R _ ⟨⟨⟨e1,e2,e3,e5⟩,e10⟩,hl,hh⟩ hk
  subst hh
  have v1:IntKind.i64.wrap (((2*min 6 (d.chords.length / 2):Nat):Int)+1)=((2*min 6 (d.chords.length / 2)+1:Nat):Int):=by rw [q00 (by omega) (by omega)]; omega
  simp only [hpT] at hk ⊢
  by_cases hq:2*min 6 (d.chords.length / 2)+1 < d.chords.length
  ·have d1:decide (((2*min 6 (d.chords.length / 2)+1:Nat):Int) < (d.chords.length:Nat))=true:=decide_eq_true (by omega)
   have d2:decide (((2*min 6 (d.chords.length / 2):Nat):Int) < 12)=false:=decide_eq_false (by omega)
   generalize 2*min 6 (d.chords.length / 2)=K at *
   (repeat' first|simp only [il26l4_go,il26l4b,go_sem,e1,e2,e3,e5,e10,v1,d1,d2]|with_reducible refine wX fun _=>?_|((with_reducible refine wY ?_ ?_); rfl)|fail)
   all_goals (refine hk _ _ _ ⟨?_,rfl,rfl⟩; simp only [go_sem,eD,e1,e2,e3,e5,e10])
  ·have d1:decide (((2*min 6 (d.chords.length / 2)+1:Nat):Int) < (d.chords.length:Nat))=false:=decide_eq_false (by omega)
   generalize 2*min 6 (d.chords.length / 2)=K at *
   (repeat' first|simp only [il26l4_go,il26l4b,go_sem,e1,e2,e3,e5,e10,v1,d1]|with_reducible refine wX fun _=>?_|((with_reducible refine wY ?_ ?_); rfl)|fail)
   all_goals (refine hk _ _ _ ⟨?_,rfl,rfl⟩; simp only [go_sem,eD,e1,e2,e3,e5,e10])
 ·exact ⟨he,q7j d,rfl⟩
 ·intro x e h ⟨h1,h2,h3⟩
  rw [q1J (fun i L=>wD d L (pkL d.chords (2*i) % (brN d:Nat)) (pkL d.chords (2*i+1) % (brN d:Nat))),← List.range_eq_range'] at h3
  subst h2 h3
  exact hR _ h1
end
end Go.Proofs.Ytnjaokhdeaeegaa
namespace Go.Proofs.Ytnjaokhdeaeegaa
open Go Go.Abs
def hpU (p5 n5 p8:Nat) (l0:Lk) (N:Int) (st:List Bool) (L:List Lk) (s q mr:Nat):Heap:=hpT N st L s q mr++zzT N s p5 n5 p8 l0
section
variable (p5 n5 p8:Nat) (hn5:n5≤1) (l0:Lk)
include hn5
theorem q7m (c1 c2 c3 c4:Bool) (d:Dr) (hd:drP d) (N:Int) (st:List Bool) (L:List Lk) (hst:(st.length:Int)=N) (hL:L.length≤24) (hN:N≤12) (mr:Nat) (hmr:mr≤1) (a b:Int) (dd nn:Nat) (hn:100 < nn) (Q:AV→Heap→Prop)
  (hQ:∀ q5 m5 q8 l,m5≤1→Q (.agg (tpA N st.length (wth d N st L a b).length)) (hpU p5 n5 p8 l0 N st (wth d N st L a b) st.length L.length mr++zzT N st.length q5 m5 q8 l)) :
  oB (inl Try.prog pol (ans Try.prog pol) nn (dd+1) (.fn 64) [.t (drT c1 c2 c3 c4 d),.agg (tpA N st.length L.length),.t (I a),.t (I b)] (hpU p5 n5 p8 l0 N st L st.length L.length mr)) Q:=by
 have k1:=q1o c3 d.pers L.length hd.pers
 have k2:=q1o c4 d.delays L.length hd.delays
 have b1:=q0F hd.pers L.length
 have b2:=q0F hd.delays L.length
 have t1:(pkL d.pers L.length).tmod 20=pkL d.pers L.length % 20:=Int.tmod_eq_emod_of_nonneg b1.1
 have t2:(pkL d.delays L.length).tmod 50=pkL d.delays L.length % 50:=Int.tmod_eq_emod_of_nonneg b2.1
 have v1:IntKind.i64.wrap (pkL d.pers L.length % 20)=pkL d.pers L.length % 20:=q00 (by omega) (by omega)
 have v2:IntKind.i64.wrap (pkL d.delays L.length % 50)=pkL d.delays L.length % 50:=q00 (by omega) (by omega)
 have v3:IntKind.i64.wrap (1+pkL d.pers L.length % 20)=1+pkL d.pers L.length % 20:=q00 (by omega) (by omega)
 have k3:=q6n false false ⟨N,st,L⟩ (mkK d L.length a b) hst
 simp only [mkK] at k3
 have hl1:((st.map B).map AV.t).length=st.length:=by simp
 have hl2:((L.map encK).map AV.t).length=L.length:=by simp
 have hw:wth d N st L a b=if L.length=24∨lkR ⟨N,st,L⟩ (mkK d L.length a b)=false then L else if jnL L a b=true then L else L++[mkK d L.length a b]:=rfl
 have hroom:(L.length+1)*32≤roomB:=q1m (by omega) (by omega)
 by_cases h24:L.length=24
 ·have d1:decide ((L.length:Int)=24)=true:=decide_eq_true (by omega)
  rw [hw,if_pos (.inl h24)] at hQ
  simp only [hpU,hpT,zzT,List.cons_append,List.nil_append] at hQ ⊢
  with_reducible refine q0e il64_eq ?_ ?_
  ·exact Nat.le_of_ble_eq_true rfl
  (repeat' first|simp only [il64c,go_sem,k1,k2,t1,t2,v1,v2,v3,d1,hmr,hn5,hl1,hl2]|with_reducible refine wX fun _=>?_|((with_reducible refine wY ?_ ?_); rfl)|fail)
  all_goals exact hQ _ _ _ (mkK d L.length a b) (by omega)
 have d1:decide ((L.length:Int)=24)=false:=decide_eq_false (by omega)
 cases hlr:lkR ⟨N,st,L⟩ (mkK d L.length a b) with
 | false =>
  rw [hw,if_pos (.inr hlr)] at hQ
  simp only [mkK] at hlr
  rw [hlr] at k3
  simp only [hpU,hpT,zzT,List.cons_append,List.nil_append] at hQ ⊢
  with_reducible refine q0e il64_eq ?_ ?_
  ·exact Nat.le_of_ble_eq_true rfl
  (repeat' first|simp only [il64c,go_sem,k1,k2,t1,t2,v1,v2,v3,k3,d1,hmr,hn5,hl1,hl2]|with_reducible refine wX fun _=>?_|((with_reducible refine wY ?_ ?_); rfl)|fail)
  all_goals exact hQ _ _ _ (mkK d L.length a b) (by omega)
 | true =>
  rw [hw,if_neg (by rintro (h|h); exact h24 h; rw [hlr] at h; cases h)] at hQ
  have hlr':=hlr
  simp only [mkK] at hlr'
  rw [hlr'] at k3
  have hpush:((L.map encK).map AV.t)++[.t (lkT (mkK d L.length a b))]=(((L++[mkK d L.length a b]).map encK).map AV.t):=by simp [encK]
  simp only [mkK] at hpush
  simp only [hpU,hpT,zzT,List.cons_append,List.nil_append] at hQ ⊢
  with_reducible refine q0e il64_eq ?_ ?_
  ·exact Nat.le_of_ble_eq_true rfl
  (repeat' first|simp only [il64c,go_sem,k1,k2,t1,t2,v1,v2,v3,k3,d1,hmr,hn5,hl1,hl2]|with_reducible refine wX fun _=>?_|((with_reducible refine wY ?_ ?_); rfl)|fail)
  refine q0r L encK (step:=fun i x (_:Unit)=>if (decide (x.a=a∧x.b=b∨x.a=b∧x.b=a))=true then Ctl.out true else Ctl.go ()) (fin:=fun _=>false)
   (St:=fun i _ e h=>(e 2=.t (I a)∧e 3=.t (I b)∧e 5=.ref 7 1 0 0∧e 8=.ref 8 1 0 0∧e 9=.t (I (L.length:Nat))∧e 10=.ref 9 1 0 0∧e 11=.t (I (i:Nat)))∧h=[.row 3 [.t zT3] 0,.row 1 ((st.map B).map .t) 0,.row 4 ((L.map encK).map .t) 0,.row 3 [.agg (tpA N st.length L.length)] mr,.row 3 [.agg (tpA N st.length p5)] n5,.row 3 [.agg (tpA N st.length p8)] 1,.row 4 [.t (lkT l0)] 1,.row 3 [.agg (tpA N st.length L.length)] 0,.row 3 [.t zT3] 0,.row 4 [.t (lkT (mkK d L.length a b))] 1])
   (Ex:=fun r x e h=>(e 8=.ref 8 1 0 0∧(r=false→e 5=.ref 7 1 0 0∧e 10=.ref 9 1 0 0))∧(r=true∧x=.ret∧h=[.row 3 [.t zT3] 0,.row 1 ((st.map B).map .t) 0,.row 4 ((L.map encK).map .t) 0,.row 3 [.agg (tpA N st.length L.length)] mr,.row 3 [.agg (tpA N st.length p5)] n5,.row 3 [.agg (tpA N st.length p8)] 1,.row 4 [.t (lkT l0)] 1,.row 3 [.agg (tpA N st.length L.length)] 0,.row 3 [.agg (tpA N st.length L.length)] 1,.row 4 [.t (lkT (mkK d L.length a b))] 1]∨r=false∧x=.exit 0∧h=[.row 3 [.t zT3] 0,.row 1 ((st.map B).map .t) 0,.row 4 ((L.map encK).map .t) 0,.row 3 [.agg (tpA N st.length L.length)] mr,.row 3 [.agg (tpA N st.length p5)] n5,.row 3 [.agg (tpA N st.length p8)] 1,.row 4 [.t (lkT l0)] 1,.row 3 [.agg (tpA N st.length L.length)] 0,.row 3 [.t zT3] 0,.row 4 [.t (lkT (mkK d L.length a b))] 1])) (s:=()) (by omega) ?_ ?_ (by omega) ?_ ?_
  ·intro i x _ e h Y R' hm hi hx hget hlt hw' ⟨hs,hh⟩ hk
   subst hh
   have k4:=q6m x a b
   have gx:((L.map encK).map AV.t)[i]? = some (.t (lkT x)):=q1n (enc:=encK) hx
   by_cases hj:(x.a=a∧x.b=b∨x.a=b∧x.b=a)
   ·have dj:=decide_eq_true hj
    rw [dj] at k4
    rw [if_pos dj,q0g] at hk
    simp only [mkK] at hk ⊢
    (repeat' first|simp only [il64l0_go,il64l0b,go_sem,hs,hlt,gx,hl2,k4,hi,hmr,hn5]|with_reducible refine wX fun _=>?_|((with_reducible refine wY ?_ ?_); rfl)|fail)
    all_goals (refine hk _ _ _ ⟨⟨?_,by simp⟩,.inl ⟨by simp,rfl,rfl⟩⟩; simp only [go_sem,hs])
   ·have dj:=decide_eq_false hj
    rw [dj] at k4
    rw [if_neg (by rw [dj]; simp),q08] at hk
    simp only [mkK] at hk ⊢
    (repeat' first|simp only [il64l0_go,il64l0b,go_sem,hs,hlt,hw',gx,hl2,k4,hi,hmr,hn5]|with_reducible refine wX fun _=>?_|((with_reducible refine wY ?_ ?_); rfl)|fail)
    all_goals (refine hk _ _ ⟨?_,rfl⟩; simp only [go_sem,hs,hw'])
  ·intro _ e h Y R' hlt ⟨hs,hh⟩ hk
   subst hh
   simp only [mkK] at hk ⊢
   (repeat' first|simp only [il64l0_go,il64l0b,go_sem,hs,hlt]|with_reducible refine wX fun _=>?_|((with_reducible refine wY ?_ ?_); rfl)|fail)
   all_goals (refine hk _ _ _ ⟨⟨?_,fun _=>?_⟩,.inr ⟨by simp,rfl,rfl⟩⟩ <;> simp only [go_sem,hs,and_self])
  ·refine ⟨?_,rfl⟩
   simp only [go_sem]
  ·intro x e h ⟨⟨h8,h5⟩,hx⟩
   have hfold:∀ (l:List Lk) (k:Nat),foldC (fun i (x:Lk) (_:Unit)=>if (decide (x.a=a∧x.b=b∨x.a=b∧x.b=a))=true then Ctl.out true else Ctl.go ()) (fun _=>false) k l ()=jnL l a b:=by
    intro l
    induction l with
    | nil=>intro k; rfl
    | cons y l ih =>
     intro k
     by_cases hy:(decide (y.a=a∧y.b=b∨y.a=b∧y.b=a))=true
     ·rw [q0y (r:=true) (if_pos hy)]
      simp only [jnL,List.any_cons,hy,Bool.true_or]
     ·rw [q0m (s':=()) (if_neg hy),ih]
      have hy':(decide (y.a=a∧y.b=b∨y.a=b∧y.b=a))=false:=by simpa using hy
      simp only [jnL,List.any_cons,hy',Bool.false_or]
   rw [hfold] at hx h5
   rcases hx with ⟨hb,rfl,rfl⟩|⟨hb,rfl,rfl⟩
   ·rw [hb,if_pos rfl] at hQ
    (repeat' first|simp only [il64c,go_sem,h8]|with_reducible refine wX fun _=>?_|((with_reducible refine wY ?_ ?_); rfl)|fail)
    all_goals exact hQ _ _ _ (mkK d L.length a b) (by omega)
   ·rw [hb,if_neg (by simp)] at hQ
    obtain ⟨h5,h10⟩:=h5 hb
    simp only [List.length_append,List.length_cons,List.length_nil,mkK] at hQ
    rw [← hpush] at hQ
    (repeat' first|simp only [il64c,go_sem,h8,h5,h10,hl2,hroom,hmr,hn5]|with_reducible refine wX fun _=>?_|((with_reducible refine wY ?_ ?_); rfl)|fail)
    all_goals exact hQ _ _ _ (mkK d L.length a b) (by omega)
variable (c1 c2 c3 c4:Bool) (d:Dr) (hd:drP d)
include hd
theorem qiP (dd nn:Nat) (hn:100 < nn) (R:Xit→FEnv→Heap→Prop) (e:FEnv) (he:eD c1 c2 c3 c4 d e∧e 4=.t (I (stN d:Nat))∧e 9=.t (I 0))
  (hR:∀ e,eD c1 c2 c3 c4 d e→R (.exit 6) e (hpU p5 n5 p8 l0 ((brN d+stN d:Nat):Int) (dSt d) (dL4 d) (dSt d).length (dL4 d).length 1)) :
  wpIter 7 (some [1,2,3,4,5,9]) (wc Try.prog pol (ans Try.prog pol) (inl Try.prog pol (ans Try.prog pol) nn (dd+1)) nn 26 il26l3) R nn e (hpU p5 n5 p8 l0 ((brN d+stN d:Nat):Int) (dSt d) (dL3 d) (dSt d).length (dL3 d).length 1):=by
 obtain ⟨b1,b2,b3⟩:=q0K hd
 obtain ⟨s1,s2,s3⟩:=q0L hd
 have hst:=hst_d d hd
 refine q0D (stN d) (step:=fun s (L:List Lk)=>.go (if 0 < pkL d.homes (2*s+1) % 3 then wD d L ((brN d+s:Nat):Int) (pkL d.homes (2*s+1) % (brN d:Nat)) else L)) (fin:=id)
  (St:=fun i L e h=>(eD c1 c2 c3 c4 d e∧e 4=.t (I (stN d:Nat))∧e 9=.t (I (i:Nat)))∧L.length≤24∧h=hpU p5 n5 p8 l0 ((brN d+stN d:Nat):Int) (dSt d) L (dSt d).length L.length 1)
  (Ex:=fun L x e h=>(eD c1 c2 c3 c4 d e)∧x=.exit 6∧h=hpU p5 n5 p8 l0 ((brN d+stN d:Nat):Int) (dSt d) L (dSt d).length L.length 1) (s:=dL3 d) (by omega) ?_ ?_ (by omega) ?_ ?_
 ·intro i L e h Y R hi hlt hw ⟨⟨⟨e1,e2,e3,e5⟩,e4,e9⟩,hl,hh⟩ hk
  subst hh
  simp only [q08] at hk
  have v1:IntKind.i64.wrap (((brN d:Nat):Int)+(i:Nat))=((brN d+i:Nat):Int):=by rw [q00 (by omega) (by omega)]; omega
  have v2:IntKind.i64.wrap (2*((i:Nat):Int))=((2*i:Nat):Int):=by rw [q00 (by omega) (by omega)]; omega
  have v4:IntKind.i64.wrap (((2*i:Nat):Int)+1)=((2*i+1:Nat):Int):=by rw [q00 (by omega) (by omega)]; omega
  have k1:=q1o c2 d.homes (2*i+1) hd.homes
  have hb:=q0F hd.homes (2*i+1)
  have t1:(pkL d.homes (2*i+1)).tmod (brN d:Nat)=pkL d.homes (2*i+1) % (brN d:Nat):=Int.tmod_eq_emod_of_nonneg hb.1
  have t2:(pkL d.homes (2*i+1)).tmod 3=pkL d.homes (2*i+1) % 3:=Int.tmod_eq_emod_of_nonneg hb.1
  have hm0:=Int.emod_nonneg (pkL d.homes (2*i+1)) (b:=((brN d:Nat):Int)) (by omega)
  have hm1:=Int.emod_lt_of_pos (pkL d.homes (2*i+1)) (b:=((brN d:Nat):Int)) (by omega)
  have v3:IntKind.i64.wrap (pkL d.homes (2*i+1) % (brN d:Nat))=pkL d.homes (2*i+1) % (brN d:Nat):=q00 (by omega) (by omega)
  have v5:IntKind.i64.wrap (pkL d.homes (2*i+1) % 3)=pkL d.homes (2*i+1) % 3:=q00 (by omega) (by omega)
  have hn0:¬ (((brN d:Nat):Int)=0):=by omega
  have hcall:=@q7m p5 n5 p8 hn5 l0 c1 c2 c3 c4 d hd ((brN d+stN d:Nat):Int) (dSt d) L hst hl (by omega) 1 (Nat.le_refl _) ((brN d+i:Nat):Int) (pkL d.homes (2*i+1) % (brN d:Nat)) dd nn hn
  have hl2:(wD d L ((brN d+i:Nat):Int) (pkL d.homes (2*i+1) % (brN d:Nat))).length≤24:=wD_24 hl
  change ∀ Q:AV→Heap→Prop,(∀ q5 m5 q8 l,m5≤1→Q (.agg (tpA _ (dSt d).length (wD d L ((brN d+i:Nat):Int) (pkL d.homes (2*i+1) % (brN d:Nat))).length)) (hpU p5 n5 p8 l0 _ (dSt d) (wD d L ((brN d+i:Nat):Int) (pkL d.homes (2*i+1) % (brN d:Nat))) (dSt d).length L.length 1++zzT _ (dSt d).length q5 m5 q8 l))→_ at hcall
  generalize wD d L ((brN d+i:Nat):Int) (pkL d.homes (2*i+1) % (brN d:Nat))=L2 at *
  generalize pkL d.homes (2*i+1)=V at *
  simp only [hpU,hpT,zzT,drT,List.cons_append,List.nil_append] at hcall hk ⊢
  by_cases hq:0 < V % 3
  ·have d1:=decide_eq_true hq
   rw [if_pos hq] at hk
   (repeat' first|simp only [il26l3_go,il26l3b,go_sem,e1,e2,e3,e4,e5,e9,hlt,hw,v1,v2,v3,v4,v5,k1,t1,t2,hn0,d1]|with_reducible refine wX fun _=>?_|((with_reducible refine wY ?_ ?_); rfl)|fail)
   with_reducible refine hcall _ ?_
   intro q5 m5 q8 l hm5
   (repeat' first|simp only [List.cons_append,List.nil_append,go_sem,e1,e2,e3,e4,e5,e9,hw,q1b]|with_reducible refine wX fun _=>?_|((with_reducible refine wY ?_ ?_); rfl)|fail)
   all_goals (refine hk _ _ ⟨?_,hl2,?_⟩ <;> simp only [go_sem,eD,e1,e2,e3,e4,e5,e9,hw])
  ·have d1:=decide_eq_false hq
   rw [if_neg hq] at hk
   (repeat' first|simp only [il26l3_go,il26l3b,go_sem,e1,e2,e3,e4,e5,e9,hlt,hw,v1,v2,v3,v4,v5,k1,t1,t2,hn0,d1,q1b]|with_reducible refine wX fun _=>?_|((with_reducible refine wY ?_ ?_); rfl)|fail)
   all_goals (refine hk _ _ ⟨?_,hl,?_⟩ <;> simp only [go_sem,eD,e1,e2,e3,e4,e5,e9,hw])
 ·intro L e h Y R hlt ⟨⟨⟨e1,e2,e3,e5⟩,e4,e9⟩,hl,hh⟩ hk
  subst hh
  simp only [hpU,hpT,zzT,List.cons_append,List.nil_append] at hk ⊢
  (repeat' first|simp only [il26l3_go,il26l3b,go_sem,e1,e2,e3,e4,e5,e9,hlt]|with_reducible refine wX fun _=>?_|((with_reducible refine wY ?_ ?_); rfl)|fail)
  all_goals (refine hk _ _ _ ⟨?_,rfl,rfl⟩; simp only [go_sem,eD,e1,e2,e3,e4,e5,e9])
 ·exact ⟨he,q43 d,rfl⟩
 ·intro x e h ⟨h1,h2,h3⟩
  rw [q1J (fun s L=>if 0 < pkL d.homes (2*s+1) % 3 then wD d L ((brN d+s:Nat):Int) (pkL d.homes (2*s+1) % (brN d:Nat)) else L),← List.range_eq_range'] at h3
  subst h2 h3
  exact hR _ h1
theorem qiQ (dd nn:Nat) (hn:100 < nn) (R:Xit→FEnv→Heap→Prop) (e:FEnv) (he:eD c1 c2 c3 c4 d e∧e 10=.t (I 0))
  (hR:∀ e,eD c1 c2 c3 c4 d e→R (.exit 8) e (hpU p5 n5 p8 l0 ((brN d+stN d:Nat):Int) (dSt d) (dL5 d) (dSt d).length (dL5 d).length 1)) :
  wpIter 7 (some [1,2,3,5,10]) (wc Try.prog pol (ans Try.prog pol) (inl Try.prog pol (ans Try.prog pol) nn (dd+1)) nn 26 il26l4) R nn e (hpU p5 n5 p8 l0 ((brN d+stN d:Nat):Int) (dSt d) (dL4 d) (dSt d).length (dL4 d).length 1):=by
 obtain ⟨b1,b2,b3⟩:=q0K hd
 obtain ⟨s1,s2,s3⟩:=q0L hd
 have hst:=hst_d d hd
 have hch:=hd.chords.2
 refine q0D (min 6 (d.chords.length / 2)) (step:=fun i (L:List Lk)=>.go (wD d L (pkL d.chords (2*i) % (brN d:Nat)) (pkL d.chords (2*i+1) % (brN d:Nat)))) (fin:=id)
  (St:=fun i L e h=>(eD c1 c2 c3 c4 d e∧e 10=.t (I ((2*i:Nat):Int)))∧L.length≤24∧h=hpU p5 n5 p8 l0 ((brN d+stN d:Nat):Int) (dSt d) L (dSt d).length L.length 1)
  (Ex:=fun L x e h=>(eD c1 c2 c3 c4 d e)∧x=.exit 8∧h=hpU p5 n5 p8 l0 ((brN d+stN d:Nat):Int) (dSt d) L (dSt d).length L.length 1) (s:=dL4 d) (by omega) ?_ ?_ (by omega) ?_ ?_
 ·intro i L e h Y R hi _ _ ⟨⟨⟨e1,e2,e3,e5⟩,e10⟩,hl,hh⟩ hk
  subst hh
  simp only [q08] at hk
  have v1:IntKind.i64.wrap (((2*i:Nat):Int)+1)=((2*i+1:Nat):Int):=by rw [q00 (by omega) (by omega)]; omega
  have v2:IntKind.i64.wrap (((2*i:Nat):Int)+2)=((2*(i+1):Nat):Int):=by rw [q00 (by omega) (by omega)]; omega
  have d1:decide (((2*i+1:Nat):Int) < (d.chords.length:Nat))=true:=decide_eq_true (by omega)
  have d2:decide (((2*i:Nat):Int) < 12)=true:=decide_eq_true (by omega)
  have hb1:=q0F hd.chords (2*i)
  have hb2:=q0F hd.chords (2*i+1)
  have g1:(d.chords.map U8)[2*i]? = some (U8 (pkL d.chords (2*i))):=by simp [pkL,show 2*i < d.chords.length by omega]
  have g2:(d.chords.map U8)[2*i+1]? = some (U8 (pkL d.chords (2*i+1))):=by simp [pkL,show 2*i+1 < d.chords.length by omega]
  have q1:2*i < d.chords.length:=by omega
  have q2:2*i+1 < d.chords.length:=by omega
  have t1:(pkL d.chords (2*i)).tmod (brN d:Nat)=pkL d.chords (2*i) % (brN d:Nat):=Int.tmod_eq_emod_of_nonneg hb1.1
  have t2:(pkL d.chords (2*i+1)).tmod (brN d:Nat)=pkL d.chords (2*i+1) % (brN d:Nat):=Int.tmod_eq_emod_of_nonneg hb2.1
  have u1:IntKind.i64.wrap (pkL d.chords (2*i))=pkL d.chords (2*i):=q00 (by omega) (by omega)
  have u2:IntKind.i64.wrap (pkL d.chords (2*i+1))=pkL d.chords (2*i+1):=q00 (by omega) (by omega)
  have m1:=Int.emod_nonneg (pkL d.chords (2*i)) (b:=((brN d:Nat):Int)) (by omega)
  have m2:=Int.emod_lt_of_pos (pkL d.chords (2*i)) (b:=((brN d:Nat):Int)) (by omega)
  have m3:=Int.emod_nonneg (pkL d.chords (2*i+1)) (b:=((brN d:Nat):Int)) (by omega)
  have m4:=Int.emod_lt_of_pos (pkL d.chords (2*i+1)) (b:=((brN d:Nat):Int)) (by omega)
  have v3:IntKind.i64.wrap (pkL d.chords (2*i) % (brN d:Nat))=pkL d.chords (2*i) % (brN d:Nat):=q00 (by omega) (by omega)
  have v4:IntKind.i64.wrap (pkL d.chords (2*i+1) % (brN d:Nat))=pkL d.chords (2*i+1) % (brN d:Nat):=q00 (by omega) (by omega)
  have hn0:¬ (((brN d:Nat):Int)=0):=by omega
  have hcall:=@q7m p5 n5 p8 hn5 l0 c1 c2 c3 c4 d hd ((brN d+stN d:Nat):Int) (dSt d) L hst hl (by omega) 1 (Nat.le_refl _) (pkL d.chords (2*i) % (brN d:Nat)) (pkL d.chords (2*i+1) % (brN d:Nat)) dd nn hn
  have hl2:(wD d L (pkL d.chords (2*i) % (brN d:Nat)) (pkL d.chords (2*i+1) % (brN d:Nat))).length≤24:=wD_24 hl
  change ∀ Q:AV→Heap→Prop,(∀ q5 m5 q8 l,m5≤1→Q (.agg (tpA _ (dSt d).length (wD d L (pkL d.chords (2*i) % (brN d:Nat)) (pkL d.chords (2*i+1) % (brN d:Nat))).length)) (hpU p5 n5 p8 l0 _ (dSt d) (wD d L (pkL d.chords (2*i) % (brN d:Nat)) (pkL d.chords (2*i+1) % (brN d:Nat))) (dSt d).length L.length 1++zzT _ (dSt d).length q5 m5 q8 l))→_ at hcall
  generalize wD d L (pkL d.chords (2*i) % (brN d:Nat)) (pkL d.chords (2*i+1) % (brN d:Nat))=L2 at *
  generalize pkL d.chords (2*i)=V1 at *
  generalize pkL d.chords (2*i+1)=V2 at *
  simp only [hpU,hpT,zzT,drT,List.cons_append,List.nil_append] at hcall hk ⊢
  (repeat' first|simp only [il26l4_go,il26l4b,go_sem,e1,e2,e3,e5,e10,v1,v2,v3,v4,u1,u2,d1,d2,g1,g2,q1,q2,t1,t2,hn0]|with_reducible refine wX fun _=>?_|((with_reducible refine wY ?_ ?_); rfl)|fail)
  with_reducible refine hcall _ ?_
  intro q5 m5 q8 l hm5
  (repeat' first|simp only [List.cons_append,List.nil_append,go_sem,e1,e2,e3,e5,e10,v2,q1b]|with_reducible refine wX fun _=>?_|((with_reducible refine wY ?_ ?_); rfl)|fail)
  all_goals (refine hk _ _ ⟨?_,hl2,?_⟩ <;> simp only [go_sem,eD,e1,e2,e3,e5,e10,v2])
 ·intro L e h Y R _ ⟨⟨⟨e1,e2,e3,e5⟩,e10⟩,hl,hh⟩ hk
  subst hh
  have v1:IntKind.i64.wrap (((2*min 6 (d.chords.length / 2):Nat):Int)+1)=((2*min 6 (d.chords.length / 2)+1:Nat):Int):=by rw [q00 (by omega) (by omega)]; omega
  simp only [hpU,hpT,zzT,List.cons_append,List.nil_append] at hk ⊢
  by_cases hq:2*min 6 (d.chords.length / 2)+1 < d.chords.length
  ·have d1:decide (((2*min 6 (d.chords.length / 2)+1:Nat):Int) < (d.chords.length:Nat))=true:=decide_eq_true (by omega)
   have d2:decide (((2*min 6 (d.chords.length / 2):Nat):Int) < 12)=false:=decide_eq_false (by omega)
   generalize 2*min 6 (d.chords.length / 2)=K at *
   (repeat' first|simp only [il26l4_go,il26l4b,go_sem,e1,e2,e3,e5,e10,v1,d1,d2]|with_reducible refine wX fun _=>?_|((with_reducible refine wY ?_ ?_); rfl)|fail)
   all_goals (refine hk _ _ _ ⟨?_,rfl,rfl⟩; simp only [go_sem,eD,e1,e2,e3,e5,e10])
  ·have d1:decide (((2*min 6 (d.chords.length / 2)+1:Nat):Int) < (d.chords.length:Nat))=false:=decide_eq_false (by omega)
   generalize 2*min 6 (d.chords.length / 2)=K at *
   (repeat' first|simp only [il26l4_go,il26l4b,go_sem,e1,e2,e3,e5,e10,v1,d1]|with_reducible refine wX fun _=>?_|((with_reducible refine wY ?_ ?_); rfl)|fail)
   all_goals (refine hk _ _ _ ⟨?_,rfl,rfl⟩; simp only [go_sem,eD,e1,e2,e3,e5,e10])
 ·exact ⟨he,q7j d,rfl⟩
 ·intro x e h ⟨h1,h2,h3⟩
  rw [q1J (fun i L=>wD d L (pkL d.chords (2*i) % (brN d:Nat)) (pkL d.chords (2*i+1) % (brN d:Nat))),← List.range_eq_range'] at h3
  subst h2 h3
  exact hR _ h1
end
end Go.Proofs.Ytnjaokhdeaeegaa
namespace Go.Proofs.Ytnjaokhdeaeegaa
open Go Go.Abs
theorem qiR (c1 c2 c3 c4:Bool) (d:Dr) (hd:drP d):ans Try.prog pol 26 [drT c1 c2 c3 c4 d]=some (tpT false false (dTopo d)):=by
 obtain ⟨b1,b2,b3⟩:=q0K hd
 obtain ⟨s1,s2,s3⟩:=q0L hd
 have hbr:=hd.br
 have hsn:=hd.st
 have t1:d.br.tmod 6=d.br % 6:=Int.tmod_eq_emod_of_nonneg hbr.1
 have t2:d.st.tmod 5=d.st % 5:=Int.tmod_eq_emod_of_nonneg hsn.1
 have t3:d.br.tmod 2=d.br % 2:=Int.tmod_eq_emod_of_nonneg hbr.1
 have w1:IntKind.u8.wrap (d.br % 6)=d.br % 6:=by rw [q3f]; omega
 have w2:IntKind.u8.wrap (d.st % 5)=d.st % 5:=by rw [q3f]; omega
 have w3:IntKind.u8.wrap (d.br % 2)=d.br % 2:=by rw [q3f]; omega
 have v1:IntKind.i64.wrap (d.br % 6)=d.br % 6:=q00 (by omega) (by omega)
 have v2:IntKind.i64.wrap (d.st % 5)=d.st % 5:=q00 (by omega) (by omega)
 have v3:IntKind.i64.wrap (1+d.br % 6)=((brN d:Nat):Int):=by rw [q00 (by omega) (by omega)]; omega
 have v4:IntKind.i64.wrap (2+d.st % 5)=((stN d:Nat):Int):=by rw [q00 (by omega) (by omega)]; omega
 have v5:IntKind.i64.wrap (((brN d:Nat):Int)+(stN d:Nat))=((brN d+stN d:Nat):Int):=by rw [q00 (by omega) (by omega)]; omega
 have v6:IntKind.i64.wrap (((brN d:Nat):Int) - 1)=((brN d - 1:Nat):Int):=by rw [q00 (by omega) (by omega)]; omega
 obtain ⟨nn,h2000⟩:∃ nn,2000 < nn:=⟨2001,by omega⟩
 have hn:100 < nn:=by omega
 have hst:=hst_d d hd
 have hl3:=q42 d
 have hcall:=@q25 c1 c2 c3 c4 d hd ((brN d+stN d:Nat):Int) (dSt d) (dL2 d) hst hl3 (by omega) 1 (Nat.le_refl _) ((brN d - 1:Nat):Int) 0 4 nn hn
 refine q02 nn 5 il26_eq (Nat.le_of_ble_eq_true rfl) ?_
 simp only [il26c]
 (repeat' first|simp only [List.cons_append,List.nil_append,go_sem,t1,t2,w1,w2,v1,v2,v3,v4,v5]|with_reducible refine wX fun _=>?_|((with_reducible refine wY ?_ ?_); rfl)|fail)
 refine qiD c1 c2 c3 c4 d hd 5 nn hn _ _ (by simp only [go_sem,eD]) ?_
 intro e ⟨⟨e1,e2,e3,e5⟩,e4⟩
 simp only [hpT]
 (repeat' first|simp only [List.cons_append,List.nil_append,go_sem,e1,e2,e3,e4,e5]|with_reducible refine wX fun _=>?_|((with_reducible refine wY ?_ ?_); rfl)|fail)
 refine qiE c1 c2 c3 c4 d hd 4 nn hn _ _ (by simp only [go_sem,eD,e1,e2,e3,e4,e5]) ?_
 clear e1 e2 e3 e5 e4
 intro e ⟨⟨e1,e2,e3,e5⟩,e4⟩
 simp only [hpT]
 (repeat' first|simp only [List.cons_append,List.nil_append,go_sem,e1,e2,e3,e4,e5]|with_reducible refine wX fun _=>?_|((with_reducible refine wY ?_ ?_); rfl)|fail)
 refine qiO c1 c2 c3 c4 d hd 4 nn hn _ _ (by simp only [go_sem,eD,e1,e2,e3,e4,e5]) ?_
 clear e1 e2 e3 e5 e4
 intro e ⟨⟨e1,e2,e3,e5⟩,e4⟩
 have hfin:tpT false false (dTopo d)=.agg [I ((brN d+stN d:Nat):Int),.sl false 1 ((dSt d).map B),.sl false 4 ((dL5 d).map encK)]:=rfl
 have hlS:((dSt d).map B).map AV.t=((dSt d).map B).map AV.t:=rfl
 have hl1:(((dSt d).map B).map AV.t).length=(dSt d).length:=by simp
 have hl2:(((dL5 d).map encK).map AV.t).length=(dL5 d).length:=by simp
 rw [hfin]
 have tail:¬ (2 < brN d∧d.br % 2=0)→dL3 d=dL2 d:=fun h=>by rw [dL3,if_neg h]
 by_cases hb2:2 < brN d
 ·have d1:decide (2 < ((brN d:Nat):Int))=true:=decide_eq_true (by omega)
  by_cases hm:d.br % 2=0
  ·have d2:=decide_eq_true hm
   have h3:dL3 d=wD d (dL2 d) ((brN d - 1:Nat):Int) 0:=by rw [dL3,if_pos ⟨hb2,hm⟩]
   change ∀ Q:AV→Heap→Prop,(∀ q5 m5 q8 l,m5≤1→Q (.agg (tpA _ (dSt d).length (wD d (dL2 d) ((brN d - 1:Nat):Int) 0).length)) (hpT _ (dSt d) (wD d (dL2 d) ((brN d - 1:Nat):Int) 0) (dSt d).length (dL2 d).length 1++zzT _ (dSt d).length q5 m5 q8 l))→_ at hcall
   rw [← h3] at hcall
   simp only [hpT,zzT,drT,List.cons_append,List.nil_append] at hcall ⊢
   (repeat' first|simp only [List.cons_append,List.nil_append,go_sem,e1,e2,e3,e4,e5,d1,d2,t3,w3,v6]|with_reducible refine wX fun _=>?_|((with_reducible refine wY ?_ ?_); rfl)|fail)
   with_reducible refine hcall _ ?_
   intro q5 m5 q8 l hm5
   (repeat' first|simp only [List.cons_append,List.nil_append,go_sem,e1,e2,e3,e4,e5]|with_reducible refine wX fun _=>?_|((with_reducible refine wY ?_ ?_); rfl)|fail)
   have hheap:([.row 3 [.t zT3] 0,.row 1 (((dSt d).map B).map .t) 0,.row 4 (((dL3 d).map encK).map .t) 0,.row 3 [.agg [.t (I ((brN d+stN d:Nat):Int)),.ms 1 (dSt d).length 0 (dSt d).length 1 false,.ms 2 (dL3 d).length 0 (dL3 d).length 4 false]] 1,.row 3 [.agg (tpA ((brN d+stN d:Nat):Int) (dSt d).length q5)] m5,.row 3 [.agg (tpA ((brN d+stN d:Nat):Int) (dSt d).length q8)] 1,.row 4 [.t (lkT l)] 1]:Heap)=hpU q5 m5 q8 l ((brN d+stN d:Nat):Int) (dSt d) (dL3 d) (dSt d).length (dL3 d).length 1:=rfl
   rw [hheap]
   refine qiP q5 m5 q8 hm5 l c1 c2 c3 c4 d hd 4 nn hn _ _ (by simp only [go_sem,eD,e1,e2,e3,e4,e5]) ?_
   clear e1 e2 e3 e5 e4
   intro e ⟨e1,e2,e3,e5⟩
   simp only [hpU,hpT,zzT,List.cons_append,List.nil_append]
   (repeat' first|simp only [List.cons_append,List.nil_append,go_sem,e1,e2,e3,e5]|with_reducible refine wX fun _=>?_|((with_reducible refine wY ?_ ?_); rfl)|fail)
   refine qiQ q5 m5 q8 hm5 l c1 c2 c3 c4 d hd 4 nn hn _ _ (by simp only [go_sem,eD,e1,e2,e3,e5]) ?_
   clear e1 e2 e3 e5
   intro e ⟨e1,e2,e3,e5⟩
   simp only [hpU,hpT,zzT,List.cons_append,List.nil_append]
   (repeat' first|simp only [List.cons_append,List.nil_append,go_sem,e1,e2,e3,e5,hl1,hl2]|with_reducible refine wX fun _=>?_|((with_reducible refine wY ?_ ?_); rfl)|fail)
  ·have d2:=decide_eq_false hm
   have h3:=tail (fun h=>hm h.2)
   simp only [hpT]
   (repeat' first|simp only [List.cons_append,List.nil_append,go_sem,e1,e2,e3,e4,e5,d1,d2,t3,w3,v6]|with_reducible refine wX fun _=>?_|((with_reducible refine wY ?_ ?_); rfl)|fail)
   have hheap:([.row 3 [.t zT3] 0,.row 1 (((dSt d).map B).map .t) 0,.row 4 (((dL2 d).map encK).map .t) 0,.row 3 [.agg (tpA ((brN d+stN d:Nat):Int) (dSt d).length (dL2 d).length)] 1]:Heap)=hpT ((brN d+stN d:Nat):Int) (dSt d) (dL3 d) (dSt d).length (dL3 d).length 1:=by rw [h3]; rfl
   rw [hheap]
   refine q7k c1 c2 c3 c4 d hd 4 nn hn _ _ (by simp only [go_sem,eD,e1,e2,e3,e4,e5]) ?_
   clear e1 e2 e3 e5 e4
   intro e ⟨e1,e2,e3,e5⟩
   simp only [hpT]
   (repeat' first|simp only [List.cons_append,List.nil_append,go_sem,e1,e2,e3,e5]|with_reducible refine wX fun _=>?_|((with_reducible refine wY ?_ ?_); rfl)|fail)
   refine q7l c1 c2 c3 c4 d hd 4 nn hn _ _ (by simp only [go_sem,eD,e1,e2,e3,e5]) ?_
   clear e1 e2 e3 e5
   intro e ⟨e1,e2,e3,e5⟩
   simp only [hpT]
   (repeat' first|simp only [List.cons_append,List.nil_append,go_sem,e1,e2,e3,e5,hl1,hl2]|with_reducible refine wX fun _=>?_|((with_reducible refine wY ?_ ?_); rfl)|fail)
 ·have d1:decide (2 < ((brN d:Nat):Int))=false:=decide_eq_false (by omega)
  have h3:=tail (fun h=>hb2 h.1)
  simp only [hpT]
  (repeat' first|simp only [List.cons_append,List.nil_append,go_sem,e1,e2,e3,e4,e5,d1]|with_reducible refine wX fun _=>?_|((with_reducible refine wY ?_ ?_); rfl)|fail)
  have hheap:([.row 3 [.t zT3] 0,.row 1 (((dSt d).map B).map .t) 0,.row 4 (((dL2 d).map encK).map .t) 0,.row 3 [.agg (tpA ((brN d+stN d:Nat):Int) (dSt d).length (dL2 d).length)] 1]:Heap)=hpT ((brN d+stN d:Nat):Int) (dSt d) (dL3 d) (dSt d).length (dL3 d).length 1:=by rw [h3]; rfl
  rw [hheap]
  refine q7k c1 c2 c3 c4 d hd 4 nn hn _ _ (by simp only [go_sem,eD,e1,e2,e3,e4,e5]) ?_
  clear e1 e2 e3 e5 e4
  intro e ⟨e1,e2,e3,e5⟩
  simp only [hpT]
  (repeat' first|simp only [List.cons_append,List.nil_append,go_sem,e1,e2,e3,e5]|with_reducible refine wX fun _=>?_|((with_reducible refine wY ?_ ?_); rfl)|fail)
  refine q7l c1 c2 c3 c4 d hd 4 nn hn _ _ (by simp only [go_sem,eD,e1,e2,e3,e5]) ?_
  clear e1 e2 e3 e5
  intro e ⟨e1,e2,e3,e5⟩
  simp only [hpT]
  (repeat' first|simp only [List.cons_append,List.nil_append,go_sem,e1,e2,e3,e5,hl1,hl2]|with_reducible refine wX fun _=>?_|((with_reducible refine wY ?_ ?_); rfl)|fail)
end Go.Proofs.Ytnjaokhdeaeegaa
namespace Go.Proofs.Ytnjaokhdeaeegaa
open Go Go.Abs
theorem qiS (c1 c2 c3 c4:Bool) (d:Dr) (hd:drP d) (a b:Int) (ha:0≤a∧a < 256) (hb:0≤b∧b < 256):ans Try.prog pol 8 [drT c1 c2 c3 c4 d,U8 a,U8 b]=some (B true):=by
 have kW:=qiB
 have kT:=qiR c1 c2 c3 c4 d hd
 have hok:=qiL hd
 generalize dTopo d=u at *
 obtain ⟨z1,z2,z3⟩:=q0k hok
 have kE:=qiN false false u (by omega) a b ha hb
 have he:=qiM (t:=u) (by omega) a b
 have tT:∀ (c1 c2:Bool) (t:Tpo),List.take 3 (tpC c1 c2 t)=tpC c1 c2 t:=fun _ _ _=>rfl
 have t6:List.take 6 (drC c1 c2 c3 c4 d)=drC c1 c2 c3 c4 d:=rfl
 generalize endA u a=x at *
 generalize endB u a b=y at *
 have hab:=he
 obtain ⟨⟨a1,a2⟩,⟨b1,b2⟩,hne⟩:=hab
 obtain ⟨a',rfl⟩:∃ a':Nat,x=a':=⟨x.toNat,by omega⟩
 obtain ⟨b',rfl⟩:∃ b':Nat,y=b':=⟨y.toNat,by omega⟩
 have kS:=q6C false false u a' b' hok he
 refine q02 10 1 il8_eq (Nat.le_of_ble_eq_true rfl) ?_
 unfold sepR at kS
 cases h1:firstN (spN u a' b') u.nodes.toNat with
 | some n =>
  simp only [h1] at kS
  obtain ⟨hn,hq⟩:=q7g h1
  simp only [spN,Bool.and_eq_true,Bool.not_eq_true',decide_eq_false_iff_not] at hq
  obtain ⟨q1,q2,q3,q4⟩:=hq
  have kl:=q2F false false u hok a' b' he (q3X (c:=true) (N:=[((n:Nat):Int)])) q24 (by simp) (by simp) 8
  have e:lsA u a' b' [((n:Nat):Int)] [] 8=.tup [nilT,I 4]:=by
   unfold lsA
   rw [if_pos ⟨by simp [inR]; omega,rfl,by omega,by omega⟩,show (8:Int).toNat=8 from rfl,List.map_nil,show List.map Int.toNat [((n:Nat):Int)]=[n] from rfl,
    q7h hok q4 (fun k e=>⟨by omega,by rw [show k=n from by omega]; exact List.mem_singleton_self _⟩) (fun k e=>by omega),if_pos rfl]
  rw [e] at kl
  have kl:ans Try.prog pol 12 [tpT false false u,I ((a':Nat):Int),I ((b':Nat):Int),.agg [.sl true 1 [I ((n:Nat):Int)],nilT],I 8]=some (.tup [nilT,I 4]):=kl
  have g1:decide ((0:Int)≤((n:Nat):Int))=true:=decide_eq_true (by omega)
  have g2:decide (((n:Nat):Int) < u.nodes)=true:=decide_eq_true (by omega)
  have gst:(u.station.map B)[n]? = some (B (stA u n)):=q20 u hok hn
  rw [q1] at gst
  have hst:n < u.station.length:=by omega
  have g3:decide (((n:Nat):Int)=((a':Nat):Int))=false:=decide_eq_false q2
  have g4:decide (((n:Nat):Int)=((b':Nat):Int))=false:=decide_eq_false q3
  (repeat' first|simp only [il8c,go_sem,kW,kT,kE,kS,kl,tT,t6,g1,g2,g3,g4,gst,hst,List.length_map]|with_reducible refine wX fun _=>?_|((with_reducible refine wY ?_ ?_); rfl)|fail)
 | none =>
  simp only [h1] at kS
  cases h2:firstN (spL u a' b') u.links.length with
  | some i =>
   simp only [h2] at kS
   obtain ⟨hi,hq⟩:=q7g h2
   simp only [spL,Bool.not_eq_true'] at hq
   have kl:=q2F false false u hok a' b' he q24 (q3X (c:=true) (N:=[((i:Nat):Int)])) (by simp) (by simp) 8
   have e:lsA u a' b' [] [((i:Nat):Int)] 8=.tup [nilT,I 4]:=by
    unfold lsA
    rw [if_pos ⟨rfl,by simp [inR]; omega,by omega,by omega⟩,show (8:Int).toNat=8 from rfl,List.map_nil,show List.map Int.toNat [((i:Nat):Int)]=[i] from rfl,
     q7h hok hq (fun k e=>by omega) (fun k e=>by rw [show k=i from by omega]; exact List.mem_singleton_self _),if_pos rfl]
   rw [e] at kl
   have kl:ans Try.prog pol 12 [tpT false false u,I ((a':Nat):Int),I ((b':Nat):Int),.agg [nilT,.sl true 1 [I ((i:Nat):Int)]],I 8]=some (.tup [nilT,I 4]):=kl
   have g1:decide ((0:Int)≤((i:Nat):Int))=true:=decide_eq_true (by omega)
   have g2:decide (((i:Nat):Int) < ((u.links.length:Nat):Int))=true:=decide_eq_true (by omega)
   (repeat' first|simp only [il8c,go_sem,kW,kT,kE,kS,kl,tT,t6,g1,g2,List.length_map]|with_reducible refine wX fun _=>?_|((with_reducible refine wY ?_ ?_); rfl)|fail)
  | none =>
   simp only [h2] at kS
   (repeat' first|simp only [il8c,go_sem,kW,kT,kE,kS,tT,t6]|with_reducible refine wX fun _=>?_|((with_reducible refine wY ?_ ?_); rfl)|fail)
end Go.Proofs.Ytnjaokhdeaeegaa
namespace Go.Proofs.Ytnjaokhdeaeegaa
open Go Go.Abs
theorem q2L {n:Nat} (h:n≤maxLen):n < 9223372036854775808:=Nat.lt_of_le_of_lt h (by decide)
theorem qiT {x:T} (f:FitE Try.prog 94 x):∃ a,x=encK a:=by
 obtain ⟨c,rfl,g⟩:=q5p (ls:=[.int .i64,.int .i64,.int .i64,.int .i64]) (by kernel_rfl) (by kernel_rfl) f
 obtain ⟨y0,q0,rfl,v0,g⟩:=q0M g
 obtain ⟨y1,q1,rfl,v1,g⟩:=q0M g
 obtain ⟨y2,q2,rfl,v2,g⟩:=q0M g
 obtain ⟨y3,q3,rfl,v3,g⟩:=q0M g
 obtain rfl:=q3g g
 obtain ⟨n0,rfl,w0⟩:=v0
 obtain ⟨n1,rfl,w1⟩:=v1
 obtain ⟨n2,rfl,w2⟩:=v2
 obtain ⟨n3,rfl,w3⟩:=v3
 exact ⟨⟨n0,n1,n2,n3⟩,rfl⟩
theorem links {xs:List T} (h:∀ y∈xs,FitE Try.prog 94 y):∃ l,xs=List.map encK l:=qea (fun y hy=>qiT (h y hy))
theorem qiU {x:T} (f:FitE Try.prog 5 x):∃ a,x=U8 a∧(fun a:Int=>0≤a∧a < 256) a:=by
 obtain ⟨n0,rfl,w0⟩:=q3h (l:=.int .u8) (by kernel_rfl) (by kernel_rfl) f
 exact ⟨n0,rfl,wf_u8 w0⟩
theorem u8s {xs:List T} (h:∀ y∈xs,FitE Try.prog 5 y):∃ l,xs=List.map U8 l∧∀ a∈l,(fun a:Int=>0≤a∧a < 256) a:=q61 (fun y hy=>qiU (h y hy))
end Go.Proofs.Ytnjaokhdeaeegaa
