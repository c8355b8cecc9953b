/- Part 26 of the proof of TreeTells. -/
import Derived.Test.YtbibdnlbpjnieaaGreatT25
set_option linter.all false
set_option maxRecDepth 100000
set_option maxHeartbeats 4000000
namespace Go.Proofs.YtbibdnlbpjnieaaGreat
open Go Go.Abs
def upB (w:Nw) (p:Nat):Bool:=!stA w.t (frP w.t p).toNat && !stA w.t (toP w.t p).toNat && !dnA w (p / 2)
theorem q2H {w:Nw} {p:Nat} (hp:p < 2*w.t.links.length):upB w p=true↔upP w p:=by
 simp only [upB,upP,trP,Bool.and_eq_true,Bool.not_eq_true']
 constructor
 ·rintro ⟨⟨a,b⟩,c⟩; exact ⟨⟨hp,a,b⟩,c⟩
 ·rintro ⟨⟨_,a,b⟩,c⟩; exact ⟨⟨a,b⟩,c⟩
def pE (w:Nw) (p:Nat):List Ed:=if upB w p=true then [⟨(frP w.t p).toNat,(toP w.t p).toNat,perP w.t p⟩] else []
def edP (w:Nw):List Ed:=(List.range (2*w.t.links.length)).flatMap (pE w)
theorem qhF {w:Nw} {e:Ed}:e∈edP w↔e∈edW w:=by
 constructor
 ·intro h
  simp only [edP,List.mem_flatMap,List.mem_range] at h
  obtain ⟨p,hp,he⟩:=h
  unfold pE at he
  split at he
  ·rename_i hu
   rw [List.mem_singleton.1 he]
   exact ed_of ((q2H hp).1 hu)
  ·cases he
 ·intro h
  obtain ⟨p,hp,h1,h2,h3⟩:=ed_to h
  simp only [edP,List.mem_flatMap,List.mem_range]
  refine ⟨p,hp.1.1,?_⟩
  rw [pE,if_pos ((q2H hp.1.1).2 hp),h1,h2,h3]
  exact List.mem_singleton.2 rfl
theorem Cn.mono {E E':List Ed} (hm:∀ e∈E,e∈E') {i j:Nat} (h:Cn E i j):Cn E' i j:=by
 induction h with
 | refl=>exact .refl _
 | step he _ ih=>exact .step (hm _ he) ih
theorem qhG {κ:Nat→Int} {E E':List Ed} {N:Nat} (hE:∀ e∈E,e.a < N∧e.b < N) (hs:symE E) (hm:∀ e,e∈E'↔e∈E) (hκ:∀ i j,i < N→j < N→κ i=κ j→i=j) {i:Nat} (hi:i < N):roots κ E' N i=roots κ E N i:=by
 have hE':∀ e∈E',e.a < N∧e.b < N:=fun e he=>hE e ((hm e).1 he)
 have hs':symE E':=fun e he=>(hm _).2 (hs e ((hm e).1 he))
 have c1:=q1H (κ:=κ) (E:=E) (N:=N) i
 have c2:=(q1H (κ:=κ) (E:=E') (N:=N) i).mono (fun e he=>(hm e).1 he)
 have s1:=c2.const (f:=roots κ E N) (q3Q hE hs hκ)
 have l1:=q6O (κ:=κ) (E:=E) (N:=N) (roots κ E' N i)
 have s2:=(c1.mono (E':=E') (fun e he=>(hm e).2 he)).const (f:=roots κ E' N) (q3Q hE' hs' hκ)
 have l2:=q6O (κ:=κ) (E:=E') (N:=N) (roots κ E N i)
 have b1:=c1.lt hE hi
 have b2:=c2.lt hE hi
 refine hκ _ _ b2 b1 ?_
 rw [← s1] at l1
 rw [← s2] at l2
 omega
def ltB (x y:Int × Int):Bool:=decide (x.1 < y.1∨x.1=y.1∧x.2 < y.2)
def rrS (w:Nw) (O:List (Int × Int)) (p:Nat):List (Int × Int):=if upB w p=true∧ltB (rA O (toP w.t p)) (rA O (frP w.t p))=true then O.set (frP w.t p).toNat (rA O (toP w.t p)) else O
def rrRound (w:Nw) (O:List (Int × Int)):List (Int × Int):=(List.range (2*w.t.links.length)).foldl (rrS w) O
def rrL (w:Nw):List (Int × Int):=(List.range w.t.nodes.toNat).foldl (fun O _=>rrRound w O) (rt0 w)
def rdS (w:Nw) (D:List Int) (p:Nat):List Int:=if upB w p=true then D.set (frP w.t p).toNat (minI (dA D (frP w.t p)) (dA D (toP w.t p)+perP w.t p)) else D
def rdRound (w:Nw) (D:List Int):List Int:=(List.range (2*w.t.links.length)).foldl (rdS w) D
def rd0 (w:Nw) (R:List (Int × Int)):List Int:=(List.range w.t.nodes.toNat).map (fun n=>if (rA R ((n:Nat):Int)).2=((n:Nat):Int) then 0 else 1000000)
def rdL (w:Nw):List Int:=(List.range w.t.nodes.toNat).foldl (fun D _=>rdRound w D) (rd0 w (rrL w))
section
variable {w:Nw} (h:VN w)
include h
theorem qhH:∀ e∈edP w,e.a < w.t.nodes.toNat∧e.b < w.t.nodes.toNat∧e.a≠e.b∧1≤e.w:=fun e he=>q22 h e (qhF.1 he)
omit h in
theorem qhI:symE (edP w):=fun e he=>qhF.2 (q40 e (qhF.1 he))
theorem kapN:∀ i j,i < w.t.nodes.toNat→j < w.t.nodes.toNat→kap w i=kap w j→i=j:=fun i j hi hj hk=>by
 obtain ⟨z1,z2,z3⟩:=q02 h.t
 exact q3Z h.rank (by omega) (by omega) hk
theorem rootP {i:Nat} (hi:i < w.t.nodes.toNat):roots (kap w) (edP w) w.t.nodes.toNat i=rootF w i :=
 qhG (fun e he=>⟨(q22 h e he).1,(q22 h e he).2.1⟩) q40 (fun _=>qhF) (kapN h) hi
omit h in
theorem qhJ {x y:Nat} (hx:x < 16) (hy:y < 16):ltB (prA w x,((x:Nat):Int)) (prA w y,((y:Nat):Int))=true↔kap w x < kap w y:=by
 simp only [ltB,decide_eq_true_eq,kap]
 omega
theorem qhK {R:List (Int × Int)} {f:Nat→Nat} (hR:RelR w R f) {p:Nat} (hp:p < 2*w.t.links.length):RelR w (rrS w R p) (rndR (kap w) (pE w p) f):=by
 obtain ⟨z1,z2,z3⟩:=q02 h.t
 by_cases hu:upB w p=true
 ·rw [pE,if_pos hu]
  have hq:=(q2H hp).1 hu
  obtain ⟨a1,a2⟩:=fr_N h hq.1
  obtain ⟨b1,b2⟩:=to_N h hq.1
  obtain ⟨r1,r2⟩:=id hR
  obtain ⟨x1,x2⟩:=r2 _ a1
  obtain ⟨y1,y2⟩:=r2 _ b1
  have hx:rA R (frP w.t p)=(prA w (f (frP w.t p).toNat),((f (frP w.t p).toNat:Nat):Int)):=by rw [rA,x1]; rfl
  have hy:rA R (toP w.t p)=(prA w (f (toP w.t p).toNat),((f (toP w.t p).toNat:Nat):Int)):=by rw [rA,y1]; rfl
  show RelR w _ (pull (kap w) f ⟨(frP w.t p).toNat,(toP w.t p).toNat,perP w.t p⟩)
  unfold pull rrS
  rw [hx,hy]
  have hl:=qhJ (w:=w) (x:=f (toP w.t p).toNat) (y:=f (frP w.t p).toNat) (by omega) (by omega)
  generalize frP w.t p=A at *
  generalize toP w.t p=C at *
  dsimp only
  by_cases hlt:kap w (f C.toNat) < kap w (f A.toNat)
  ·rw [if_pos ⟨hu,hl.2 hlt⟩,if_pos hlt]
   refine ⟨by rw [List.length_set]; exact r1,fun n hn=>?_⟩
   by_cases hn':n=A.toNat
   ·subst hn'
    rw [q0I,List.getElem?_set_self (by omega)]
    exact ⟨rfl,y2⟩
   ·rw [q0F hn',List.getElem?_set_ne (fun k=>hn' k.symm)]
    exact r2 n hn
  ·rw [if_neg (fun k=>hlt (hl.1 k.2)),if_neg hlt,qgX rfl]
   exact hR
 ·rw [pE,if_neg hu,rrS,if_neg (fun k=>hu k.1)]
  exact hR
theorem qhL {R:List (Int × Int)} {f:Nat→Nat} (hR:RelR w R f):RelR w (rrRound w R) (rndR (kap w) (edP w) f):=by
 have key:∀ k,k≤2*w.t.links.length→RelR w ((List.range k).foldl (rrS w) R) (rndR (kap w) ((List.range k).flatMap (pE w)) f):=by
  intro k
  induction k with
  | zero=>intro _; exact hR
  | succ k ih =>
   intro hk
   have ih:=ih (by omega)
   rw [List.range_succ,List.foldl_append,List.foldl_cons,List.foldl_nil,List.flatMap_append,rndR,List.foldl_append]
   change RelR w _ (rndR (kap w) _ (rndR (kap w) ((List.range k).flatMap (pE w)) f))
   rw [List.flatMap_cons,List.flatMap_nil,List.append_nil]
   exact qhK h ih (by omega)
 exact key _ (Nat.le_refl _)
theorem q7f:RelR w (rrL w) (roots (kap w) (edP w) w.t.nodes.toNat):=by
 have h0:RelR w (rt0 w) id:=⟨by simp [rt0],fun n hn=>⟨by simp [rt0,hn],hn⟩⟩
 have key:∀ k,RelR w ((List.range k).foldl (fun R _=>rrRound w R) (rt0 w)) (iter (rndR (kap w) (edP w)) k id):=by
  intro k
  induction k with
  | zero=>exact h0
  | succ k ih=>rw [List.range_succ,List.foldl_append,List.foldl_cons,List.foldl_nil]; exact qhL h ih
 exact key _
theorem rrA (n:Nat) (hn:n < w.t.nodes.toNat):rA (rrL w) (n:Nat)=(prA w (rootF w n),((rootF w n:Nat):Int)):=by
 obtain ⟨e1,e2⟩:=(q7f h).2 n hn
 rw [rA,Int.toNat_natCast,e1,rootP h hn]; rfl
theorem qhM {D:List Int} {d:Nat→Int} (hD:RelD w D d) {p:Nat} (hp:p < 2*w.t.links.length):RelD w (rdS w D p) (rndD (pE w p) d):=by
 by_cases hu:upB w p=true
 ·rw [pE,if_pos hu,rdS,if_pos hu]
  have hq:=(q2H hp).1 hu
  obtain ⟨a1,a2⟩:=fr_N h hq.1
  obtain ⟨b1,b2⟩:=to_N h hq.1
  obtain ⟨r1,r2⟩:=id hD
  have x1:=r2 _ a1
  have y1:=r2 _ b1
  have hx:dA D (frP w.t p)=d (frP w.t p).toNat:=by rw [dA,x1]; rfl
  have hy:dA D (toP w.t p)=d (toP w.t p).toNat:=by rw [dA,y1]; rfl
  show RelD w _ (rlx d ⟨(frP w.t p).toNat,(toP w.t p).toNat,perP w.t p⟩)
  unfold rlx
  rw [hx,hy,q7b]
  generalize frP w.t p=A at *
  generalize toP w.t p=C at *
  dsimp only
  refine ⟨by rw [List.length_set]; exact r1,fun n hn=>?_⟩
  by_cases hn':n=A.toNat
  ·subst hn'
   rw [q0I,List.getElem?_set_self (by omega)]
  ·rw [q0F hn',List.getElem?_set_ne (fun k=>hn' k.symm)]
   exact r2 n hn
 ·rw [pE,if_neg hu,rdS,if_neg hu]
  exact hD
theorem qhN {D:List Int} {d:Nat→Int} (hD:RelD w D d):RelD w (rdRound w D) (rndD (edP w) d):=by
 have key:∀ k,k≤2*w.t.links.length→RelD w ((List.range k).foldl (rdS w) D) (rndD ((List.range k).flatMap (pE w)) d):=by
  intro k
  induction k with
  | zero=>intro _; exact hD
  | succ k ih =>
   intro hk
   have ih:=ih (by omega)
   rw [List.range_succ,List.foldl_append,List.foldl_cons,List.foldl_nil,List.flatMap_append,rndD,List.foldl_append]
   change RelD w _ (rndD _ (rndD ((List.range k).flatMap (pE w)) d))
   rw [List.flatMap_cons,List.flatMap_nil,List.append_nil]
   exact qhM h ih (by omega)
 exact key _ (Nat.le_refl _)
theorem qhO:RelD w (rdL w) (iter (rndD (edP w)) w.t.nodes.toNat (fun i=>if roots (kap w) (edP w) w.t.nodes.toNat i=i then 0 else 1000000)):=by
 obtain ⟨r1,r2⟩:=q7f h
 have h0:RelD w (rd0 w (rrL w)) (fun i=>if roots (kap w) (edP w) w.t.nodes.toNat i=i then 0 else 1000000):=by
  refine ⟨by simp [rd0],fun n hn=>?_⟩
  obtain ⟨e1,e2⟩:=r2 n hn
  have e3:(rA (rrL w) ((n:Nat):Int)).2=((roots (kap w) (edP w) w.t.nodes.toNat n:Nat):Int):=by rw [rA,Int.toNat_natCast,e1]; rfl
  rw [rd0,List.getElem?_map,List.getElem?_range hn,Option.map_some,e3]
  congr 1
  show _=(if roots (kap w) (edP w) w.t.nodes.toNat n=n then (0:Int) else 1000000)
  generalize roots (kap w) (edP w) w.t.nodes.toNat n=rn
  by_cases hr:rn=n
  ·subst hr; simp
  ·rw [if_neg hr,if_neg (by omega)]
 have key:∀ k,RelD w ((List.range k).foldl (fun D _=>rdRound w D) (rd0 w (rrL w))) (iter (rndD (edP w)) k (fun i=>if roots (kap w) (edP w) w.t.nodes.toNat i=i then 0 else 1000000)):=by
  intro k
  induction k with
  | zero=>exact h0
  | succ k ih=>rw [List.range_succ,List.foldl_append,List.foldl_cons,List.foldl_nil]; exact qhN h ih
 exact key _
theorem rdA (n:Nat) (hn:n < w.t.nodes.toNat):dA (rdL w) (n:Nat)=distF w n:=by
 obtain ⟨z1,z2,z3⟩:=q02 h.t
 have e:=(qhO h).2 n hn
 rw [dA,Int.toNat_natCast,e,Option.getD_some]
 have hd:=(q6T (W:=1000) (far:=1000000) (κ:=kap w) (qhH h) (fun e he=>edW_w h e (qhF.1 he)) (by omega) (by omega) (by omega) qhI (kapN h)).1
 refine Dst.eq (κ:=kap w) (E:=edW w) (F:=rootF w) (q22 h) ⟨fun e he=>hd.edge e (qhF.2 he),fun i hi hF=>hd.top i hi (by rw [rootP h hi]; exact hF),hd.nn,fun i hi hF=>?_⟩ (q41 h).1 n hn
 obtain ⟨e,he,h1,h2⟩:=hd.par i hi (by rw [rootP h hi]; exact hF)
 exact ⟨e,qhF.1 he,h1,h2⟩
end
def ahB (d:Int) (a:Int × Int) (p e:Int) (b:Int × Int) (q:Int):Bool:=if d=e then (if a=b then decide (p < q) else ltB a b) else decide (d < e)
theorem q7g {w:Nw} {d e p q:Int} {x y:Nat} (hx:x < 16) (hy:y < 16):ahB d (prA w x,((x:Nat):Int)) p e (prA w y,((y:Nat):Int)) q=true↔lx3 d (kap w x) p e (kap w y) q:=by
 unfold ahB lx3 ltB kap
 by_cases hd:d=e
 ·rw [if_pos hd]
  by_cases hab:((prA w x,((x:Nat):Int)):Int × Int)=(prA w y,((y:Nat):Int))
  ·rw [if_pos hab]
   have e1:=congrArg Prod.fst hab
   have e2:=congrArg Prod.snd hab
   simp only [decide_eq_true_eq] at e1 e2 ⊢
   omega
  ·rw [if_neg hab]
   have hne:¬ (prA w x=prA w y∧((x:Nat):Int)=((y:Nat):Int)):=fun k=>hab (Prod.ext k.1 k.2)
   simp only [decide_eq_true_eq]
   omega
 ·rw [if_neg hd,decide_eq_true_eq]
  omega
def rpA (w:Nw) (D:List Int) (p q:Nat):Bool:=ahB (dA D (toP w.t p)+perP w.t p) (prA w (toP w.t p).toNat,toP w.t p) (bk p:Nat) (dA D (toP w.t q)+perP w.t q) (prA w (toP w.t q).toNat,toP w.t q) (bk q:Nat)
def rpS (w:Nw) (D:List Int) (b:Int) (p:Nat):Int:=if dnA w (p / 2)=true then b else if b < 0 then (p:Nat) else if rpA w D p b.toNat=true then (p:Nat) else b
def rpN (w:Nw) (D:List Int) (n:Nat):Int:=(trunkL w.t n).foldl (rpS w D) (-1)
def rpP (w:Nw) (D:List Int) (p q:Nat):Prop:=lx3 (dA D (toP w.t p)+perP w.t p) (kap w (toP w.t p).toNat) (bk p:Nat) (dA D (toP w.t q)+perP w.t q) (kap w (toP w.t q).toNat) (bk q:Nat)
theorem qhP {w:Nw} {D:List Int}:∀ (l:List Nat),(∀ p∈l,∀ q∈l,rpA w D p q=true↔rpP w D p q) →
  (l.foldl (rpS w D) (-1) = -1∧∀ p∈l,dnA w (p / 2)=true)∨∃ p∈l,dnA w (p / 2)=false∧l.foldl (rpS w D) (-1)=(p:Nat)∧∀ q∈l,dnA w (q / 2)=false→¬ rpP w D q p:=by
 intro l
 suffices hrev:∀ l:List Nat,(∀ p∈l.reverse,∀ q∈l.reverse,rpA w D p q=true↔rpP w D p q)→(l.reverse.foldl (rpS w D) (-1) = -1∧∀ p∈l.reverse,dnA w (p / 2)=true)∨∃ p∈l.reverse,dnA w (p / 2)=false∧l.reverse.foldl (rpS w D) (-1)=(p:Nat)∧∀ q∈l.reverse,dnA w (q / 2)=false→¬ rpP w D q p by
  have:=hrev l.reverse
  rwa [List.reverse_reverse] at this
 intro l
 induction l with
 | nil=>intro _; left; exact ⟨rfl,fun p hp=>(by cases hp)⟩
 | cons x l ih =>
  rw [List.reverse_cons,List.foldl_append,List.foldl_cons,List.foldl_nil]
  intro hP
  have hin:∀ p∈l.reverse,p∈l.reverse++[x]:=fun p hp=>List.mem_append.2 (.inl hp)
  have hxin:x∈l.reverse++[x]:=by simp
  have ih:=ih (fun p hp q hq=>hP p (hin p hp) q (hin q hq))
  cases hx:dnA w (x / 2) with
  | true =>
   have e:∀ s,rpS w D s x=s:=fun s=>by rw [rpS,if_pos hx]
   rw [e]
   rcases ih with ⟨h1,h2⟩|⟨p,h1,h2,h3,h4⟩
   ·left
    refine ⟨h1,fun p hp=>?_⟩
    rcases List.mem_append.1 hp with hp|hp
    ·exact h2 p hp
    ·rw [List.mem_singleton.1 hp]; exact hx
   ·right
    refine ⟨p,hin p h1,h2,h3,fun q hq hc=>?_⟩
    rcases List.mem_append.1 hq with hq|hq
    ·exact h4 q hq hc
    ·rw [List.mem_singleton.1 hq,hx] at hc; cases hc
  | false =>
   right
   have hirr:¬ rpP w D x x:=by unfold rpP lx3; omega
   rcases ih with ⟨h1,h2⟩|⟨p,h1,h2,h3,h4⟩
   ·refine ⟨x,hxin,hx,?_,fun q hq hc=>?_⟩
    ·rw [h1,rpS,if_neg (by rw [hx]; simp),if_pos (by omega)]
    ·rcases List.mem_append.1 hq with hq|hq
     ·rw [h2 q hq] at hc; cases hc
     ·rw [List.mem_singleton.1 hq]; exact hirr
   ·by_cases hlt:rpP w D x p
    ·refine ⟨x,hxin,hx,?_,fun q hq hc=>?_⟩
     ·rw [h3,rpS,if_neg (by rw [hx]; simp),if_neg (by omega),Int.toNat_natCast,if_pos ((hP x hxin p (hin p h1)).2 hlt)]
     ·rcases List.mem_append.1 hq with hq|hq
      ·have h5:=h4 q hq hc
       unfold rpP lx3 at *
       omega
      ·rw [List.mem_singleton.1 hq]; exact hirr
    ·refine ⟨p,hin p h1,h2,?_,fun q hq hc=>?_⟩
     ·rw [h3,rpS,if_neg (by rw [hx]; simp),if_neg (by omega),Int.toNat_natCast,if_neg (fun k=>hlt ((hP x hxin p (hin p h1)).1 k))]
     ·rcases List.mem_append.1 hq with hq|hq
      ·exact h4 q hq hc
      ·rw [List.mem_singleton.1 hq]; exact hlt
theorem qhQ {w:Nw} (h:VN w) {n:Nat} (hn:n < w.t.nodes.toNat) (hr:rootF w n≠n):rpN w (rdL w) n=(((netX w).bst n:Nat):Int):=by
 obtain ⟨z1,z2,z3⟩:=q02 h.t
 have hst:=qhD h hn hr
 obtain ⟨b,b1,b2,b3,b4,b5⟩:=q7d h hn hst hr
 rw [q7e b1]
 have hl:∀ p∈trunkL w.t (n:Nat),(toP w.t p).toNat < 12∧toP w.t p=((toP w.t p).toNat:Nat)∧dA (rdL w) (toP w.t p)=distF w (toP w.t p).toNat:=fun p hp=>by
  obtain ⟨t1,t2⟩:=to_N h (q21 hst hp)
  have:=rdA h _ t1
  rw [← t2] at this
  exact ⟨by omega,t2,this⟩
 have hPP:∀ p∈trunkL w.t (n:Nat),∀ q∈trunkL w.t (n:Nat),rpA w (rdL w) p q=true↔rpP w (rdL w) p q:=fun p hp q hq=>by
  obtain ⟨p1,p2,_⟩:=hl p hp
  obtain ⟨q1,q2,_⟩:=hl q hq
  have:=q7g (w:=w) (d:=dA (rdL w) (toP w.t p)+perP w.t p) (e:=dA (rdL w) (toP w.t q)+perP w.t q) (p:=(bk p:Nat)) (q:=(bk q:Nat)) (x:=(toP w.t p).toNat) (y:=(toP w.t q).toNat) (by omega) (by omega)
  rw [← p2,← q2] at this
  exact this
 rcases qhP (w:=w) (D:=rdL w) (trunkL w.t (n:Nat)) hPP with ⟨_,k2⟩|⟨p,k1,k2,k3,k4⟩
 ·have hb:=q0Q b2.1
  rw [b3] at hb
  have:=k2 b hb
  rw [b2.2] at this; cases this
 ·rw [rpN,k3]
  have hb:=q0Q b2.1
  rw [b3] at hb
  by_cases hpb:p=b
  ·rw [hpb]
  ·exfalso
   have h5:=b5 p ⟨q21 hst k1,k2⟩ (qij.1 k1).2.1 hpb
   have h6:=k4 b hb b2.2
   unfold rpP at h6
   rw [(hl p k1).2.2,(hl b hb).2.2] at h6
   exact h6 h5
end Go.Proofs.YtbibdnlbpjnieaaGreat
namespace Go.Proofs.YtbibdnlbpjnieaaGreat
open Go Go.Abs
theorem q7h (x y:Int × Int):ans Tryz.prog pol 99 [encP x,encP y]=some (B (ltB x y)):=by
 have hL:ltB x y=(decide (x.1 < y.1) || (decide (x.1=y.1) && decide (x.2 < y.2))):=by
  rw [Bool.eq_iff_iff]; simp only [ltB,Bool.and_eq_true,Bool.or_eq_true,decide_eq_true_eq]
 rw [hL]
 simp only [encP]
 generalize hd1:decide (x.1 < y.1)=d1
 generalize hd2:decide (x.1=y.1)=d2
 generalize hd3:decide (x.2 < y.2)=d3
 cases d1 <;> cases d2 <;> cases d3
 all_goals refine q00 1 1 il99_eq (Nat.le_of_ble_eq_true rfl) ?_
 all_goals ((repeat' first|simp only [il99c,go_sem,hd1,hd2,hd3]|with_reducible refine wX fun _=>?_|((with_reducible refine wY ?_ ?_); rfl)|fail))
theorem q7i (d:Int) (a:Int × Int) (p e:Int) (b:Int × Int) (q:Int):ans Tryz.prog pol 55 [I d,encP a,I p,I e,encP b,I q]=some (B (ahB d a p e b q)):=by
 have kB:=q7h a b
 unfold ahB
 obtain ⟨a1,a2⟩:=a
 obtain ⟨b1,b2⟩:=b
 simp only [encP] at kB ⊢
 by_cases hd:d=e
 ·rw [if_pos hd]
  have d1:decide (d=e)=true:=decide_eq_true hd
  by_cases hab:a1=b1∧a2=b2
  ·rw [if_pos (by rw [hab.1,hab.2])]
   have d2:=decide_eq_true hab
   refine q00 1 1 il55_eq (Nat.le_of_ble_eq_true rfl) ?_
   (repeat' first|simp only [il55c,go_sem,d1,d2]|with_reducible refine wX fun _=>?_|((with_reducible refine wY ?_ ?_); rfl)|fail)
  ·rw [if_neg (fun k=>hab (by simpa using k))]
   have d2:=decide_eq_false hab
   generalize ltB (a1,a2) (b1,b2)=r at *
   refine q00 1 1 il55_eq (Nat.le_of_ble_eq_true rfl) ?_
   (repeat' first|simp only [il55c,go_sem,d1,d2,kB]|with_reducible refine wX fun _=>?_|((with_reducible refine wY ?_ ?_); rfl)|fail)
 ·rw [if_neg hd]
  have d1:decide (d=e)=false:=decide_eq_false hd
  refine q00 1 1 il55_eq (Nat.le_of_ble_eq_true rfl) ?_
  (repeat' first|simp only [il55c,go_sem,d1]|with_reducible refine wX fun _=>?_|((with_reducible refine wY ?_ ?_); rfl)|fail)
theorem q7j (f:Fl) (w:Nw) (h:okT w.t=true) (hd:w.down.length=w.t.links.length) (p:Nat) (hp:p < 2*w.t.links.length):ans Tryz.prog pol 98 [nwT f w,I (p:Nat)]=some (B (upB w p)):=by
 obtain ⟨z1,z2,z3⟩:=q02 h
 have k1:=q3I f.st f.lk w.t p h hp
 have gd:(w.down.map B)[p / 2]? = some (B (dnA w (p / 2))):=by simp [dnA,show p / 2 < w.down.length by omega]
 have v:=q1h hp (show w.t.links.length≤1000 by omega)
 rw [upB]
 generalize (!stA w.t (frP w.t p).toNat && !stA w.t (toP w.t p).toNat)=b at *
 generalize dnA w (p / 2)=d at *
 cases b with
 | false =>
  rw [Bool.false_and]
  refine q00 1 1 il98_eq (Nat.le_of_ble_eq_true rfl) ?_
  (repeat' first|simp only [il98c,go_sem,k1]|with_reducible refine wX fun _=>?_|((with_reducible refine wY ?_ ?_); rfl)|fail)
 | true =>
  rw [Bool.true_and]
  refine q00 1 1 il98_eq (Nat.le_of_ble_eq_true rfl) ?_
  (repeat' first|simp only [il98c,go_sem,k1,gd,v]|with_reducible refine wX fun _=>?_|((with_reducible refine wY ?_ ?_); rfl)|fail)
section
variable (f:Fl) (w:Nw) (hok:okT w.t=true) (hd:w.down.length=w.t.links.length) (N:Nat) (hN:(N:Int)=w.t.nodes)
include hok hd hN
theorem qhR (x5:T) (O:List (Int × Int)) (hO:O.length=N) (mr:Nat) (hmr:mr≤N)
  (J:Inl) (nn:Nat) (hn:100 < nn) (R:Xit→FEnv→Heap→Prop) (e:FEnv)
  (he:e 1=.t (.ip (nwC f w))∧e 3=.ms 0 N 0 N 2 false∧e 5=.t x5∧e 6=.t (I 0))
  (hR:∀ e mr,mr≤N→(e 1=.t (.ip (nwC f w))∧e 3=.ms 0 N 0 N 2 false∧e 5=.t x5)→R (.exit 4) e [.row 2 (((rrRound w O).map encP).map .t) mr]) :
  wpIter 1 (some [1,3,5,6]) (wc Tryz.prog pol (ans Tryz.prog pol) J nn 52 il52l1) R nn e [.row 2 ((O.map encP).map .t) mr]:=by
 obtain ⟨z1,z2,z3⟩:=q02 hok
 have v0:IntKind.i64.wrap (2*(w.t.links.length:Nat))=((2*w.t.links.length:Nat):Int):=by rw [q09 (by omega) (by omega)]; omega
 refine q0r (2*w.t.links.length) (step:=fun p (O:List (Int × Int))=>.go (rrS w O p)) (fin:=id)
  (St:=fun p O e h=>(e 1=.t (.ip (nwC f w))∧e 3=.ms 0 N 0 N 2 false∧e 5=.t x5∧e 6=.t (I (p:Nat)))∧O.length=N∧∃ mr,mr≤N∧h=[.row 2 ((O.map encP).map .t) mr])
  (Ex:=fun O x e h=>(e 1=.t (.ip (nwC f w))∧e 3=.ms 0 N 0 N 2 false∧e 5=.t x5)∧x=.exit 4∧∃ mr,mr≤N∧h=[.row 2 ((O.map encP).map .t) mr]) (s:=O) (by omega) ?_ ?_ (by omega) ⟨he,hO,mr,hmr,rfl⟩ ?_
 ·intro p O e h Y R' hp hlt hw ⟨hs,hO,mr,hmr,hh⟩ hk
  subst hh
  simp only [q01] at hk
  have kF:=q1i f.st f.lk w.t p hp (by omega)
  have kT:=q1j f.st f.lk w.t p hp (by omega)
  have kJ:=q7j f w hok hd p hp
  obtain ⟨a1,a2⟩:=q0D hok hp
  obtain ⟨b1,b2⟩:=q0v hok hp
  unfold rrS at hk
  generalize frP w.t p=A at *
  generalize toP w.t p=C at *
  obtain ⟨a,rfl⟩:∃ a:Nat,A=(a:Nat):=⟨A.toNat,by omega⟩
  obtain ⟨b,rfl⟩:∃ b:Nat,C=(b:Nat):=⟨C.toNat,by omega⟩
  have haN:a < N:=by omega
  have hbN:b < N:=by omega
  obtain ⟨x,hx⟩:∃ x,O[a]? = some x:=⟨O[a]'(by omega),by simp [hO,haN]⟩
  obtain ⟨y,hy⟩:∃ y,O[b]? = some y:=⟨O[b]'(by omega),by simp [hO,hbN]⟩
  have hra:rA O ((a:Nat):Int)=x:=by simp [rA,hx]
  have hrb:rA O ((b:Nat):Int)=y:=by simp [rA,hy]
  rw [hra,hrb] at hk
  simp only [Int.toNat_natCast] at hk
  have kB:=q7h y x
  have gx:((O.map encP).map AV.t)[a]? = some (.t (encP x)):=q0c (enc:=encP) hx
  have gy:((O.map encP).map AV.t)[b]? = some (.t (encP y)):=q0c (enc:=encP) hy
  have hsl:((O.map encP).map AV.t).length=N:=by simp [hO]
  have hset:((O.map encP).map AV.t).set a (.t (encP y))=((O.set a y).map encP).map AV.t:=map_set (enc:=encP) (l:=O) (i:=a) (x:=y)
  simp only [encP] at kB
  have ex:encP x=.agg [I x.1,I x.2]:=rfl
  have ey:encP y=.agg [I y.1,I y.2]:=rfl
  rw [ex] at gx
  rw [ey] at gy hset
  cases hu:upB w p with
  | false =>
   rw [hu] at kJ hk
   rw [if_neg (by simp)] at hk
   (repeat' first|simp only [il52l1_go,il52l1b,go_sem,hs,hlt,hw,v0,kF,kT,kJ]|with_reducible refine wX fun _=>?_|((with_reducible refine wY ?_ ?_); rfl)|fail)
   all_goals (refine hk _ _ ⟨?_,hO,mr,hmr,?_⟩ <;> simp only [go_sem,hs,hw])
  | true =>
   rw [hu] at kJ hk
   cases hl:ltB y x with
   | false =>
    rw [hl] at kB hk
    rw [if_neg (by simp)] at hk
    (repeat' first|simp only [il52l1_go,il52l1b,go_sem,hs,hlt,hw,v0,kF,kT,kJ,kB,gx,gy,hsl,haN,hbN,hmr]|with_reducible refine wX fun _=>?_|((with_reducible refine wY ?_ ?_); rfl)|fail)
    all_goals (refine hk _ _ ⟨?_,hO,mr,hmr,?_⟩ <;> simp only [go_sem,hs,hw])
   | true =>
    rw [hl] at kB hk
    rw [if_pos ⟨rfl,rfl⟩] at hk
    have hO':(O.set a y).length=N:=by simp [hO]
    (repeat' first|simp only [il52l1_go,il52l1b,go_sem,hs,hlt,hw,v0,kF,kT,kJ,kB,gx,gy,hsl,haN,hbN,hmr,hset]|with_reducible refine wX fun _=>?_|((with_reducible refine wY ?_ ?_); rfl)|fail)
    all_goals (refine hk _ _ ⟨?_,hO',N,Nat.le_refl _,?_⟩ <;> simp only [go_sem,hs,hw])
 ·intro O e h Y R' hlt ⟨hs,hO,mr,hmr,hh⟩ hk
  subst hh
  (repeat' first|simp only [il52l1_go,il52l1b,go_sem,hs,hlt,v0]|with_reducible refine wX fun _=>?_|((with_reducible refine wY ?_ ?_); rfl)|fail)
  all_goals (refine hk _ _ _ ⟨?_,rfl,mr,hmr,rfl⟩; simp only [go_sem,hs,id])
 ·intro x e h ⟨h1,h2,mr,hmr,h3⟩
  subst h2 h3
  have hf:∀ (k i:Nat) (O:List (Int × Int)),foldC (ρ:=List (Int × Int)) (fun p (_:Unit) O=>Ctl.go (rrS w O p)) id i (List.replicate k ()) O=(List.range' i k).foldl (rrS w) O:=by
   intro k
   induction k with
   | zero=>intro i O; rfl
   | succ k ih=>intro i O; rw [List.replicate_succ,q07 (s':=rrS w O i) rfl,ih,List.range'_succ]; rfl
  rw [hf,← List.range_eq_range'] at *
  exact hR _ mr hmr h1
omit hd in
theorem qhS (O:List (Int × Int)):(rrRound w O).length=O.length:=by
 unfold rrRound
 generalize 2*w.t.links.length=k
 induction k with
 | zero=>rfl
 | succ k ih =>
  rw [List.range_succ,List.foldl_append,List.foldl_cons,List.foldl_nil]
  unfold rrS
  split
  ·rw [List.length_set]; exact ih
  ·exact ih
theorem q7k (hpl:(w.prios.length:Int)=w.t.nodes):ans Tryz.prog pol 52 [nwT f w]=some (.sl false 2 ((rrL w).map encP)):=by
 obtain ⟨z1,z2,z3⟩:=q02 hok
 have hNt:w.t.nodes.toNat=N:=by omega
 obtain ⟨nn,hn⟩:∃ nn,1000 < nn:=⟨1001,by omega⟩
 refine q00 nn 1 il52_eq (Nat.le_of_ble_eq_true rfl) ?_
 (repeat' first|simp only [il52c,go_sem]|with_reducible refine wX fun _=>?_|((with_reducible refine wY ?_ ?_); rfl)|fail)
 refine q0r N (step:=fun n (o:List (Int × Int))=>.go (o++[(prA w n,((n:Nat):Int))])) (fin:=id)
  (St:=fun n o e h=>(e 1=.t (.ip (nwC f w))∧e 3=.ms 0 o.length 0 o.length 2 false∧e 4=.t (I (n:Nat)))∧o.length=n∧h=[rowG 2 encP o])
  (Ex:=fun o x e h=>(e 1=.t (.ip (nwC f w))∧e 3=.ms 0 o.length 0 o.length 2 false)∧x=.exit 0∧o.length=N∧h=[rowG 2 encP o]) (s:=[]) (by omega) ?_ ?_ (by omega) ?_ ?_
 ·intro n o e h Y R hi hlt hw ⟨hs,ho,hh⟩ hk
  subst hh
  simp only [q01] at hk
  have hlt:decide ((n:Int) < w.t.nodes)=true:=by rw [← hN]; exact hlt
  have kB:=q1E f w n (show n < w.prios.length by omega)
  have hroom:(o.length+1)*16≤roomB:=q08 (by omega) (by omega)
  have is1:rowIs 2 o.length (some (rowG 2 encP o)):=q0g
  have pu:=q0z (k:=2) (enc:=encP) (l:=o) (x:=(prA w n,((n:Nat):Int)))
  have ex:encP (prA w n,((n:Nat):Int))=.agg [I (prA w n),I (n:Nat)]:=rfl
  rw [ex] at pu
  generalize prA w n=pr at *
  (repeat' first|simp only [il52l0_go,il52l0b,go_sem,hs,hlt,hw,kB,hroom,is1,q0d,q0e,pu]|with_reducible refine wX fun _=>?_|((with_reducible refine wY ?_ ?_); rfl)|fail)
  all_goals (refine hk _ _ ⟨?_,by simp [ho],?_⟩ <;> simp only [go_sem,hs,hw,List.length_append])
 ·intro o e h Y R hlt ⟨hs,ho,hh⟩ hk
  subst hh
  have hlt:decide ((N:Int) < w.t.nodes)=false:=by rw [← hN]; exact hlt
  (repeat' first|simp only [il52l0_go,il52l0b,go_sem,hs,hlt]|with_reducible refine wX fun _=>?_|((with_reducible refine wY ?_ ?_); rfl)|fail)
  all_goals (refine hk _ _ _ ⟨?_,rfl,ho,rfl⟩; simp only [go_sem,hs,id])
 ·refine ⟨?_,rfl,rfl⟩
  simp only [go_sem]
 ·intro x e h ⟨h1,h2,ho,h3⟩
  have hf:∀ (k i:Nat) (o:List (Int × Int)),foldC (ρ:=List (Int × Int)) (fun n (_:Unit) o=>Ctl.go (o++[(prA w n,((n:Nat):Int))])) id i (List.replicate k ()) o=o++(List.range' i k).map (fun n=>(prA w n,((n:Nat):Int))):=by
   intro k
   induction k with
   | zero=>intro i o; simp [foldC]
   | succ k ih=>intro i o; rw [List.replicate_succ,q07 (s':=o++[(prA w i,((i:Nat):Int))]) rfl,ih,List.range'_succ]; simp
  have hl0:[]++(List.range' 0 N).map (fun n=>(prA w n,((n:Nat):Int)))=rt0 w:=by rw [List.nil_append,← List.range_eq_range',rt0,hNt]
  rw [hf,hl0] at h1 h3 ho
  rw [show rrL w=(List.range N).foldl (fun O _=>rrRound w O) (rt0 w) by rw [rrL,hNt]]
  generalize rt0 w=O0 at *
  subst h2 h3
  rw [ho] at h1
  rw [q1V]
  (repeat' first|simp only [il52c,go_sem,h1]|with_reducible refine wX fun _=>?_|((with_reducible refine wY ?_ ?_); rfl)|fail)
  refine q0r N (step:=fun _ (O:List (Int × Int))=>.go (rrRound w O)) (fin:=id)
   (St:=fun i O e h=>(e 1=.t (.ip (nwC f w))∧e 3=.ms 0 N 0 N 2 false∧e 5=.t (I (i:Nat)))∧O.length=N∧∃ mr,mr≤N∧h=[.row 2 ((O.map encP).map .t) mr])
   (Ex:=fun O x e h=>e 3=.ms 0 N 0 N 2 false∧O.length=N∧x=.exit 2∧∃ mr,mr≤N∧h=[.row 2 ((O.map encP).map .t) mr]) (s:=O0) (by omega) ?_ ?_ (by omega) ?_ ?_
  ·intro i O e h Y R hi hlt hw ⟨hs,hr,mr,hmr,hh⟩ hk
   subst hh
   simp only [q01] at hk
   have hlt:decide ((i:Int) < w.t.nodes)=true:=by rw [← hN]; exact hlt
   (repeat' first|simp only [il52l2_go,il52l2b,go_sem,hs,hlt]|with_reducible refine wX fun _=>?_|((with_reducible refine wY ?_ ?_); rfl)|fail)
   refine qhR f w hok hd N hN (I (i:Nat)) O hr mr hmr _ _ (by omega) _ _ (by simp only [go_sem,hs]) ?_
   intro e' mr' hmr' he'
   (repeat' first|simp only [il52l2_go,il52l2b,go_sem,he',hw]|with_reducible refine wX fun _=>?_|((with_reducible refine wY ?_ ?_); rfl)|fail)
   all_goals (refine hk _ _ ⟨?_,by rw [qhS w hok N hN]; exact hr,mr',hmr',rfl⟩; simp only [go_sem,he',hw])
  ·intro O e h Y R hlt ⟨hs,hr,mr,hmr,hh⟩ hk
   subst hh
   have hlt:decide ((N:Int) < w.t.nodes)=false:=by rw [← hN]; exact hlt
   (repeat' first|simp only [il52l2_go,il52l2b,go_sem,hs,hlt]|with_reducible refine wX fun _=>?_|((with_reducible refine wY ?_ ?_); rfl)|fail)
   all_goals (refine hk _ _ _ ⟨?_,hr,rfl,mr,hmr,rfl⟩; simp only [go_sem,hs])
  ·refine ⟨?_,ho,0,Nat.zero_le _,rfl⟩
   simp only [go_sem,h1]
  ·intro x e h ⟨h1,hr,h2,mr,hmr,h3⟩
   have hf:∀ (k i:Nat) (O:List (Int × Int)),foldC (ρ:=List (Int × Int)) (fun (_:Nat) (_:Unit) O=>Ctl.go (rrRound w O)) id i (List.replicate k ()) O=(List.range' i k).foldl (fun O _=>rrRound w O) O:=by
    intro k
    induction k with
    | zero=>intro i O; rfl
    | succ k ih=>intro i O; rw [List.replicate_succ,q07 (s':=rrRound w O) rfl,ih,List.range'_succ]; rfl
   rw [hf,← List.range_eq_range'] at hr h3
   generalize (List.range N).foldl (fun O _=>rrRound w O) O0=O1 at *
   have hsl:((O1.map encP).map AV.t).length=N:=by simp [hr]
   subst h2 h3
   (repeat' first|simp only [il52c,go_sem,h1,hsl,hr,hmr]|with_reducible refine wX fun _=>?_|((with_reducible refine wY ?_ ?_); rfl)|fail)
end
end Go.Proofs.YtbibdnlbpjnieaaGreat
namespace Go.Proofs.YtbibdnlbpjnieaaGreat
open Go Go.Abs
def rdI (w:Nw) (D:List Int):Prop:=D.length=w.t.nodes.toNat∧∀ x∈D,0≤x∧x≤1000000
theorem q1J {D:List Int} (h:∀ x∈D,0≤x∧x≤1000000) (n:Int):0≤dA D n∧dA D n≤1000000:=by
 unfold dA
 cases hq:D[n.toNat]? with
 | none=>simp
 | some x=>exact h x (List.mem_of_getElem? hq)
theorem q7l {w:Nw} (hok:okT w.t=true) {D:List Int} {p:Nat} (hp:p < 2*w.t.links.length) (h:rdI w D):rdI w (rdS w D p):=by
 obtain ⟨h1,h2⟩:=h
 unfold rdS
 split
 ·refine ⟨by simp [h1],fun x hx=>?_⟩
  rcases List.mem_or_eq_of_mem_set hx with hx|rfl
  ·exact h2 x hx
  ·have ha:=q1J h2 (frP w.t p)
   have hb:=q1J h2 (toP w.t p)
   have hp:=q0P hok hp
   unfold minI
   split <;> omega
 ·exact ⟨h1,h2⟩
theorem q7m {w:Nw} (hok:okT w.t=true) {D:List Int} (h:rdI w D):rdI w (rdRound w D):=by
 unfold rdRound
 have:∀ k,k≤2*w.t.links.length→rdI w ((List.range k).foldl (rdS w) D):=by
  intro k
  induction k with
  | zero=>intro _; exact h
  | succ k ih =>
   intro hk
   rw [List.range_succ,List.foldl_append,List.foldl_cons,List.foldl_nil]
   exact q7l hok (by omega) (ih (by omega))
 exact this _ (Nat.le_refl _)
theorem q7n (w:Nw):(rrL w).length=w.t.nodes.toNat:=by
 have hS:∀ (l:List Nat) (O:List (Int × Int)),(l.foldl (rrS w) O).length=O.length:=by
  intro l
  induction l with
  | nil=>intro O; rfl
  | cons p l ih =>
   intro O
   rw [List.foldl_cons,ih]
   unfold rrS
   split
   ·rw [List.length_set]
   ·rfl
 have hR:∀ (l:List Nat) (O:List (Int × Int)),(l.foldl (fun O _=>rrRound w O) O).length=O.length:=by
  intro l
  induction l with
  | nil=>intro O; rfl
  | cons p l ih=>intro O; rw [List.foldl_cons,ih]; exact hS _ _
 rw [rrL,hR,rt0,List.length_map,List.length_range]
section
variable (f:Fl) (w:Nw) (hok:okT w.t=true) (hd:w.down.length=w.t.links.length) (N:Nat) (hN:(N:Int)=w.t.nodes)
include hok hd hN
theorem qhT (x7:T) (D:List Int) (hD:rdI w D) (mr:Nat) (hmr:mr≤N)
  (J:Inl) (nn:Nat) (hn:100 < nn) (R:Xit→FEnv→Heap→Prop) (e:FEnv)
  (he:e 1=.t (.ip (nwC f w))∧e 4=.ms 0 N 0 N 1 false∧e 7=.t x7∧e 8=.t (I 0))
  (hR:∀ e mr,mr≤N→(e 1=.t (.ip (nwC f w))∧e 4=.ms 0 N 0 N 1 false∧e 7=.t x7)→R (.exit 4) e [.row 1 (((rdRound w D).map I).map .t) mr]) :
  wpIter 1 (some [1,4,7,8]) (wc Tryz.prog pol (ans Tryz.prog pol) J nn 53 il53l1) R nn e [.row 1 ((D.map I).map .t) mr]:=by
 obtain ⟨z1,z2,z3⟩:=q02 hok
 have v0:IntKind.i64.wrap (2*(w.t.links.length:Nat))=((2*w.t.links.length:Nat):Int):=by rw [q09 (by omega) (by omega)]; omega
 refine q0r (2*w.t.links.length) (step:=fun p (D:List Int)=>.go (rdS w D p)) (fin:=id)
  (St:=fun p D e h=>(e 1=.t (.ip (nwC f w))∧e 4=.ms 0 N 0 N 1 false∧e 7=.t x7∧e 8=.t (I (p:Nat)))∧rdI w D∧∃ mr,mr≤N∧h=[.row 1 ((D.map I).map .t) mr])
  (Ex:=fun D x e h=>(e 1=.t (.ip (nwC f w))∧e 4=.ms 0 N 0 N 1 false∧e 7=.t x7)∧x=.exit 4∧∃ mr,mr≤N∧h=[.row 1 ((D.map I).map .t) mr]) (s:=D) (by omega) ?_ ?_ (by omega) ⟨he,hD,mr,hmr,rfl⟩ ?_
 ·intro p D e h Y R' hp hlt hw ⟨hs,hD,mr,hmr,hh⟩ hk
  subst hh
  simp only [q01] at hk
  have kF:=q1i f.st f.lk w.t p hp (by omega)
  have kT:=q1j f.st f.lk w.t p hp (by omega)
  have kP:=q2y f.st f.lk w.t p hp (by omega)
  have kJ:=q7j f w hok hd p hp
  have hD':=q7l hok hp hD
  have hpe:=q0P hok hp
  obtain ⟨hl,hbd⟩:=hD
  have ha6:=q1J hbd (frP w.t p)
  have hb6:=q1J hbd (toP w.t p)
  obtain ⟨a1,a2⟩:=q0D hok hp
  obtain ⟨b1,b2⟩:=q0v hok hp
  unfold rdS at hk hD'
  generalize perP w.t p=P at *
  generalize frP w.t p=A at *
  generalize toP w.t p=C at *
  obtain ⟨a,rfl⟩:∃ a:Nat,A=(a:Nat):=⟨A.toNat,by omega⟩
  obtain ⟨b,rfl⟩:∃ b:Nat,C=(b:Nat):=⟨C.toNat,by omega⟩
  have haN:a < N:=by omega
  have hbN:b < N:=by omega
  have hlN:D.length=N:=by omega
  obtain ⟨x,hx⟩:∃ x,D[a]? = some x:=⟨D[a]'(by omega),by simp [hlN,haN]⟩
  obtain ⟨y,hy⟩:∃ y,D[b]? = some y:=⟨D[b]'(by omega),by simp [hlN,hbN]⟩
  have hra:dA D ((a:Nat):Int)=x:=by simp [dA,hx]
  have hrb:dA D ((b:Nat):Int)=y:=by simp [dA,hy]
  rw [hra] at ha6
  rw [hrb] at hb6
  rw [hra,hrb] at hk hD'
  simp only [Int.toNat_natCast] at hk hD'
  have gx:((D.map I).map AV.t)[a]? = some (.t (I x)):=q0c (enc:=I) hx
  have gy:((D.map I).map AV.t)[b]? = some (.t (I y)):=q0c (enc:=I) hy
  have hsl:((D.map I).map AV.t).length=N:=by simp [hlN]
  have v1:IntKind.i64.wrap (y+P)=y+P:=q09 (by omega) (by omega)
  have hset:((D.map I).map AV.t).set a (.t (I (if y+P < x then y+P else x)))=((D.set a (minI x (y+P))).map I).map AV.t:=map_set (enc:=I) (l:=D) (i:=a) (x:=minI x (y+P))
  cases hu:upB w p with
  | false =>
   rw [hu] at kJ hk hD'
   rw [if_neg (by simp)] at hk hD'
   (repeat' first|simp only [il53l1_go,il53l1b,go_sem,hs,hlt,hw,v0,kF,kT,kJ]|with_reducible refine wX fun _=>?_|((with_reducible refine wY ?_ ?_); rfl)|fail)
   all_goals (refine hk _ _ ⟨?_,hD',mr,hmr,?_⟩ <;> simp only [go_sem,hs,hw])
  | true =>
   rw [hu] at kJ hk hD'
   rw [if_pos rfl] at hk hD'
   (repeat' first|simp only [il53l1_go,il53l1b,go_sem,hs,hlt,hw,v0,kF,kT,kJ,kP,v1,gx,gy,hsl,haN,hbN,hmr,hset]|with_reducible refine wX fun _=>?_|((with_reducible refine wY ?_ ?_); rfl)|fail)
   all_goals (refine hk _ _ ⟨?_,hD',N,Nat.le_refl _,?_⟩ <;> simp only [go_sem,hs,hw])
 ·intro D e h Y R' hlt ⟨hs,hD,mr,hmr,hh⟩ hk
  subst hh
  (repeat' first|simp only [il53l1_go,il53l1b,go_sem,hs,hlt,v0]|with_reducible refine wX fun _=>?_|((with_reducible refine wY ?_ ?_); rfl)|fail)
  all_goals (refine hk _ _ _ ⟨?_,rfl,mr,hmr,rfl⟩; simp only [go_sem,hs,id])
 ·intro x e h ⟨h1,h2,mr,hmr,h3⟩
  subst h2 h3
  have hf:∀ (k i:Nat) (D:List Int),foldC (ρ:=List Int) (fun p (_:Unit) D=>Ctl.go (rdS w D p)) id i (List.replicate k ()) D=(List.range' i k).foldl (rdS w) D:=by
   intro k
   induction k with
   | zero=>intro i D; rfl
   | succ k ih=>intro i D; rw [List.replicate_succ,q07 (s':=rdS w D i) rfl,ih,List.range'_succ]; rfl
  rw [hf,← List.range_eq_range'] at *
  exact hR _ mr hmr h1
theorem qhU (hpl:(w.prios.length:Int)=w.t.nodes):ans Tryz.prog pol 53 [nwT f w]=some (.sl false 1 ((rdL w).map I)):=by
 obtain ⟨z1,z2,z3⟩:=q02 hok
 have hNt:w.t.nodes.toNat=N:=by omega
 have kRt:=q7k f w hok hd N hN hpl
 have hRl:(rrL w).length=N:=by rw [q7n,hNt]
 rw [show rdL w=(List.range N).foldl (fun D _=>rdRound w D) (rd0 w (rrL w)) by rw [rdL,hNt]]
 have hI0:rdI w (rd0 w (rrL w)):=by
  refine ⟨by simp [rd0],fun x hx=>?_⟩
  rw [rd0,List.mem_map] at hx
  obtain ⟨m,_,rfl⟩:=hx
  split <;> omega
 have hl0:[]++(List.range' 0 N).map (fun n=>if (rA (rrL w) ((n:Nat):Int)).2=((n:Nat):Int) then (0:Int) else 1000000)=rd0 w (rrL w):=by rw [List.nil_append,← List.range_eq_range',rd0,hNt]
 generalize rd0 w (rrL w)=D0 at *
 generalize rrL w=RR at *
 obtain ⟨nn,hn⟩:∃ nn,1000 < nn:=⟨1001,by omega⟩
 refine q00 nn 1 il53_eq (Nat.le_of_ble_eq_true rfl) ?_
 (repeat' first|simp only [il53c,go_sem,kRt]|with_reducible refine wX fun _=>?_|((with_reducible refine wY ?_ ?_); rfl)|fail)
 refine q0r N (step:=fun n (o:List Int)=>.go (o++[if (rA RR ((n:Nat):Int)).2=((n:Nat):Int) then 0 else 1000000])) (fin:=id)
  (St:=fun n o e h=>(e 1=.t (.ip (nwC f w))∧e 3=.t (.sl false 2 (RR.map encP))∧e 4=.ms 0 o.length 0 o.length 1 false∧e 5=.t (I (n:Nat)))∧o.length=n∧h=[rowG 1 I o])
  (Ex:=fun o x e h=>(e 1=.t (.ip (nwC f w))∧e 4=.ms 0 o.length 0 o.length 1 false)∧x=.exit 0∧o.length=N∧h=[rowG 1 I o]) (s:=[]) (by omega) ?_ ?_ (by omega) ?_ ?_
 ·intro n o e h Y R hi hlt hw ⟨hs,ho,hh⟩ hk
  subst hh
  simp only [q01] at hk
  have hlt:decide ((n:Int) < w.t.nodes)=true:=by rw [← hN]; exact hlt
  have hroom:(o.length+1)*8≤roomB:=q08 (by omega) (by omega)
  have is1:rowIs 1 o.length (some (rowG 1 I o)):=q0g
  obtain ⟨y,hy⟩:∃ y,RR[n]? = some y:=⟨RR[n]'(by omega),by simp [show n < RR.length by omega]⟩
  have hra:rA RR ((n:Nat):Int)=y:=by simp [rA,hy]
  rw [hra] at hk
  have gR:(RR.map encP)[n]? = some (.agg [I y.1,I y.2]):=by simp [hy,encP]
  have hnR:n < RR.length:=by omega
  have hcy:(T.agg [I y.1,I y.2]).cells=[I y.1,I y.2]:=rfl
  by_cases hq:y.2=((n:Nat):Int)
  ·have d1:=decide_eq_true hq
   rw [if_pos hq] at hk
   (repeat' first|simp only [il53l0_go,il53l0b,go_sem,hs,hlt,hw,gR,hnR,hcy,d1,hroom,is1,q0d,q0e,q0z]|with_reducible refine wX fun _=>?_|((with_reducible refine wY ?_ ?_); rfl)|fail)
   all_goals (refine hk _ _ ⟨?_,by simp [ho],?_⟩ <;> simp only [go_sem,hs,hw,List.length_append])
  ·have d1:=decide_eq_false hq
   rw [if_neg hq] at hk
   (repeat' first|simp only [il53l0_go,il53l0b,go_sem,hs,hlt,hw,gR,hnR,hcy,d1,hroom,is1,q0d,q0e,q0z]|with_reducible refine wX fun _=>?_|((with_reducible refine wY ?_ ?_); rfl)|fail)
   all_goals (refine hk _ _ ⟨?_,by simp [ho],?_⟩ <;> simp only [go_sem,hs,hw,List.length_append])
 ·intro o e h Y R hlt ⟨hs,ho,hh⟩ hk
  subst hh
  have hlt:decide ((N:Int) < w.t.nodes)=false:=by rw [← hN]; exact hlt
  (repeat' first|simp only [il53l0_go,il53l0b,go_sem,hs,hlt]|with_reducible refine wX fun _=>?_|((with_reducible refine wY ?_ ?_); rfl)|fail)
  all_goals (refine hk _ _ _ ⟨?_,rfl,ho,rfl⟩; simp only [go_sem,hs,id])
 ·refine ⟨?_,rfl,rfl⟩
  simp only [go_sem]
 ·intro x e h ⟨h1,h2,ho,h3⟩
  have hf:∀ (k i:Nat) (o:List Int),foldC (ρ:=List Int) (fun n (_:Unit) o=>Ctl.go (o++[if (rA RR ((n:Nat):Int)).2=((n:Nat):Int) then 0 else 1000000])) id i (List.replicate k ()) o=o++(List.range' i k).map (fun n=>if (rA RR ((n:Nat):Int)).2=((n:Nat):Int) then (0:Int) else 1000000):=by
   intro k
   induction k with
   | zero=>intro i o; simp [foldC]
   | succ k ih=>intro i o; rw [List.replicate_succ,q07 (s':=o++[if (rA RR ((i:Nat):Int)).2=((i:Nat):Int) then 0 else 1000000]) rfl,ih,List.range'_succ]; simp
  rw [hf,hl0] at h1 h3 ho
  clear hl0
  subst h2 h3
  rw [ho] at h1
  rw [q1V]
  (repeat' first|simp only [il53c,go_sem,h1]|with_reducible refine wX fun _=>?_|((with_reducible refine wY ?_ ?_); rfl)|fail)
  refine q0r N (step:=fun _ (D:List Int)=>.go (rdRound w D)) (fin:=id)
   (St:=fun i D e h=>(e 1=.t (.ip (nwC f w))∧e 4=.ms 0 N 0 N 1 false∧e 7=.t (I (i:Nat)))∧rdI w D∧∃ mr,mr≤N∧h=[.row 1 ((D.map I).map .t) mr])
   (Ex:=fun D x e h=>e 4=.ms 0 N 0 N 1 false∧rdI w D∧x=.exit 2∧∃ mr,mr≤N∧h=[.row 1 ((D.map I).map .t) mr]) (s:=D0) (by omega) ?_ ?_ (by omega) ?_ ?_
  ·intro i D e h Y R hi hlt hw ⟨hs,hr,mr,hmr,hh⟩ hk
   subst hh
   simp only [q01] at hk
   have hlt:decide ((i:Int) < w.t.nodes)=true:=by rw [← hN]; exact hlt
   (repeat' first|simp only [il53l2_go,il53l2b,go_sem,hs,hlt]|with_reducible refine wX fun _=>?_|((with_reducible refine wY ?_ ?_); rfl)|fail)
   refine qhT f w hok hd N hN (I (i:Nat)) D hr mr hmr _ _ (by omega) _ _ (by simp only [go_sem,hs]) ?_
   intro e' mr' hmr' he'
   (repeat' first|simp only [il53l2_go,il53l2b,go_sem,he',hw]|with_reducible refine wX fun _=>?_|((with_reducible refine wY ?_ ?_); rfl)|fail)
   all_goals (refine hk _ _ ⟨?_,q7m hok hr,mr',hmr',rfl⟩; simp only [go_sem,he',hw])
  ·intro D e h Y R hlt ⟨hs,hr,mr,hmr,hh⟩ hk
   subst hh
   have hlt:decide ((N:Int) < w.t.nodes)=false:=by rw [← hN]; exact hlt
   (repeat' first|simp only [il53l2_go,il53l2b,go_sem,hs,hlt]|with_reducible refine wX fun _=>?_|((with_reducible refine wY ?_ ?_); rfl)|fail)
   all_goals (refine hk _ _ _ ⟨?_,hr,rfl,mr,hmr,rfl⟩; simp only [go_sem,hs])
  ·refine ⟨?_,hI0,0,Nat.zero_le _,rfl⟩
   simp only [go_sem,h1]
  ·intro x e h ⟨h1,hr,h2,mr,hmr,h3⟩
   have hf:∀ (k i:Nat) (D:List Int),foldC (ρ:=List Int) (fun (_:Nat) (_:Unit) D=>Ctl.go (rdRound w D)) id i (List.replicate k ()) D=(List.range' i k).foldl (fun D _=>rdRound w D) D:=by
    intro k
    induction k with
    | zero=>intro i D; rfl
    | succ k ih=>intro i D; rw [List.replicate_succ,q07 (s':=rdRound w D) rfl,ih,List.range'_succ]; rfl
   rw [hf,← List.range_eq_range'] at hr h3
   generalize (List.range N).foldl (fun D _=>rdRound w D) D0=D1 at *
   have hlN:D1.length=N:=by rw [hr.1,hNt]
   have hsl:((D1.map I).map AV.t).length=N:=by simp [hlN]
   subst h2 h3
   (repeat' first|simp only [il53c,go_sem,h1,hsl,hlN,hmr]|with_reducible refine wX fun _=>?_|((with_reducible refine wY ?_ ?_); rfl)|fail)
end
end Go.Proofs.YtbibdnlbpjnieaaGreat
namespace Go.Proofs.YtbibdnlbpjnieaaGreat
open Go Go.Abs
theorem qhV (f:Fl) (w:Nw) (n:Nat) (h:okT w.t=true) (hr:n < w.prios.length) (hn:(n:Int) < w.t.nodes) (hst:stA w.t n=false):ans Tryz.prog pol 39 [nwT f w,I (n:Nat)]=some (brT false false true (newB (prA w n) (n:Nat) ((trunkL w.t n).map ofN) (costL w.t n))):=by
 obtain ⟨nn,hnn⟩:∃ nn,200 < nn:=⟨201,by omega⟩
 obtain ⟨z1,z2,z3⟩:=q02 h
 have gs:(w.t.station.map B)[n]? = some (B (stA w.t n)):=by simp [stA,show n < w.t.station.length by omega]
 rw [hst] at gs
 have k1:=q1E f w n hr
 have kp:=@qgJ f.st f.lk w.t n h hst 1 nn hnn
 have h24:=q1k h (n:Nat)
 have hplt:=fun p=>@q1D w.t (n:Nat) p
 simp only [costL] at *
 generalize trunkL w.t (n:Nat)=P at *
 refine q00 nn 2 il39_eq (Nat.le_of_ble_eq_true rfl) ?_
 (repeat' first|simp only [il39c,go_sem,gs,k1]|with_reducible refine wX fun _=>?_|((with_reducible refine wY ?_ ?_); rfl)|fail)
 try simp only [List.length_cons,List.length_nil,Nat.reduceAdd]
 with_reducible refine @kp _ ?_
 have pa:avoid (belowB 1) (.ms 1 P.length 0 P.length 1 false)=true:=by simp [avoid,belowB]
 have pb:avoidObj (belowB 1) (rowG 1 I (P.map ofN))=true:=by simp only [rowG,avoidObj,q0l]
 have hPl:(P.map ofN).length=P.length:=List.length_map ..
 (repeat' first|simp only [il39c,q0M,List.replicate_succ,List.replicate_zero,List.drop_succ_cons,List.drop_zero,List.cons_append,List.nil_append,go_sem,gs,k1,pa,pb,q0n]|with_reducible refine wX fun _=>?_|((with_reducible refine wY ?_ ?_); rfl)|fail)
 refine q06 P (fun p=>I (ofN p)) (step:=fun _ p (o:List Int)=>.go (o++[perP w.t p])) (fin:=id)
  (St:=fun i o e h=>(e 2=.t (.ip (nwC f w))∧e 4=.ref 0 1 0 0∧e 5=.ref 5 1 0 0∧e 6=.t (I (i:Nat)))∧o.length=i∧h=[.row 5 [.t zB] 0,rowG 1 I (P.map ofN),.row 1 [] 0,rowG 1 I o,.row 8 [] 0,.row 5 [.agg [.t (I (prA w n)),.t (I (n:Nat)),.ms 1 P.length 0 P.length 1 false,.ms 3 o.length 0 o.length 1 false,.ms 4 0 0 0 8 false]] 1])
  (Ex:=fun o x e h=>(e 4=.ref 0 1 0 0∧e 5=.ref 5 1 0 0)∧x=.exit 0∧h=[.row 5 [.t zB] 0,rowG 1 I (P.map ofN),.row 1 [] 0,rowG 1 I o,.row 8 [] 0,.row 5 [.agg [.t (I (prA w n)),.t (I (n:Nat)),.ms 1 P.length 0 P.length 1 false,.ms 3 o.length 0 o.length 1 false,.ms 4 0 0 0 8 false]] 1]) (s:=[]) (by omega) ?_ ?_ (by omega) ?_ ?_
 ·intro i p o e h' Y R hm hi hx hget hlt hw ⟨hs,ho,hh⟩ hk
  subst hh
  simp only [q01] at hk
  have hp:=hplt p hm
  have k2:=q2y f.st f.lk w.t p hp (by omega)
  have gp:((((P.map ofN).map I).map AV.t))[i]? = some (.t (I (p:Nat))):=by simp [hx,ofN]
  have gl:((((P.map ofN).map I).map AV.t)).length=P.length:=by simp
  have hroom:(o.length+1)*8≤roomB:=q08 (by omega) (by omega)
  have is2:rowIs 1 o.length (some (rowG 1 I o)):=q0g
  have hrw:rwB P.length i (some (rowG 1 I (P.map ofN)))=some (.t (I (p:Nat))):=by
   rw [q1V,q5I,if_pos ⟨Nat.zero_le _,hi,by rw [gl]; exact Nat.le_refl _⟩,gp]
  (repeat' first|simp only [il39l0_go,il39l0b,go_sem,hs,hi,hlt,hw,k2,hrw,hroom,is2,q0d,q0e,q0z,q0n]|with_reducible refine wX fun _=>?_|((with_reducible refine wY ?_ ?_); rfl)|fail)
  all_goals (refine hk _ _ ⟨?_,by simp [ho],?_⟩ <;> simp only [go_sem,hs,hw,List.length_append])
 ·intro o e h' Y R hlt ⟨hs,ho,hh⟩ hk
  subst hh
  (repeat' first|simp only [il39l0_go,il39l0b,go_sem,hs,hlt]|with_reducible refine wX fun _=>?_|((with_reducible refine wY ?_ ?_); rfl)|fail)
  all_goals (refine hk _ _ _ ⟨?_,rfl,rfl⟩; simp only [go_sem,hs,id])
 ·refine ⟨?_,rfl,rfl⟩
  simp only [go_sem]
 ·intro x e h' ⟨h1,h2,h3⟩
  have hf:∀ (l:List Nat) (i:Nat) (o:List Int),foldC (ρ:=List Int) (fun _ p o=>Ctl.go (o++[perP w.t p])) id i l o=o++l.map (perP w.t):=by
   intro l
   induction l with
   | nil=>intro i o; simp [foldC]
   | cons p l ih=>intro i o; rw [q07 (s':=o++[perP w.t p]) rfl,ih]; simp
  rw [hf,List.nil_append] at h3
  have hcl:(P.map (perP w.t)).length=P.length:=List.length_map ..
  rw [hcl] at h3
  subst h2 h3
  have hroom:64*P.length≤roomB:=by rw [Nat.mul_comm]; exact q08 (by omega) (by omega)
  have hbig:P.length≤9223372036854775807:=by omega
  have hpos:(0:Int)≤(P.length:Nat):=by omega
  have e1:List.map encH (List.replicate P.length zH)=List.replicate P.length (T.agg [T.sc (Value.bool false),T.sc (Value.int IntKind.i64 0),T.sc (Value.int IntKind.i64 0),T.sc (Value.int IntKind.i64 0),T.sc (Value.int IntKind.i64 0),T.sc (Value.int IntKind.i64 0),T.sc (Value.int IntKind.i64 0),T.sc (Value.int IntKind.i64 0)]):=by simp [encH,zH]
  have is1:rowIs 1 P.length (some (rowG 1 I (P.map ofN))):=by have:=q0g (k:=1) (enc:=I) (l:=P.map ofN); rwa [hPl] at this
  have is3:rowIs 1 P.length (some (rowG 1 I (P.map (perP w.t)))):=by have:=q0g (k:=1) (enc:=I) (l:=P.map (perP w.t)); rwa [hcl] at this
  simp only [newB,hPl]
  have mr1:List.map AV.t (List.replicate P.length (T.agg [T.sc (Value.bool false),T.sc (Value.int IntKind.i64 0),T.sc (Value.int IntKind.i64 0),T.sc (Value.int IntKind.i64 0),T.sc (Value.int IntKind.i64 0),T.sc (Value.int IntKind.i64 0),T.sc (Value.int IntKind.i64 0),T.sc (Value.int IntKind.i64 0)]))=List.replicate P.length (AV.t (T.agg [T.sc (Value.bool false),T.sc (Value.int IntKind.i64 0),T.sc (Value.int IntKind.i64 0),T.sc (Value.int IntKind.i64 0),T.sc (Value.int IntKind.i64 0),T.sc (Value.int IntKind.i64 0),T.sc (Value.int IntKind.i64 0),T.sc (Value.int IntKind.i64 0)])):=by simp
  (repeat' first|simp only [il39c,go_sem,h1,hroom,hbig,hpos,is1,is3,q0d,q0e,List.length_replicate,← mr1]|with_reducible refine wX fun _=>?_|((with_reducible refine wY ?_ ?_); rfl)|fail)
  all_goals rw [← e1]
theorem qhW (f:Fl) (w:Nw) (n:Nat) (h:okT w.t=true) (hr:n < w.prios.length) (hn:(n:Int) < w.t.nodes) (hst:stA w.t n=true):ans Tryz.prog pol 39 [nwT f w,I (n:Nat)]=some (encX zBx):=by
 obtain ⟨nn,hnn⟩:∃ nn,200 < nn:=⟨201,by omega⟩
 obtain ⟨z1,z2,z3⟩:=q02 h
 have gs:(w.t.station.map B)[n]? = some (B (stA w.t n)):=by simp [stA,show n < w.t.station.length by omega]
 rw [hst] at gs
 have ez:encX zBx=.agg [I 0,I 0,.sc (.slice none 0 0),.sc (.slice none 0 0),.sc (.slice none 0 0)]:=rfl
 rw [ez]
 refine q00 nn 2 il39_eq (Nat.le_of_ble_eq_true rfl) ?_
 (repeat' first|simp only [il39c,go_sem,gs]|with_reducible refine wX fun _=>?_|((with_reducible refine wY ?_ ?_); rfl)|fail)
end Go.Proofs.YtbibdnlbpjnieaaGreat
namespace Go.Proofs.YtbibdnlbpjnieaaGreat
open Go Go.Abs
theorem qhX {α:Type} {k:Nat} {enc:α→T} {l:List α} {h:Heap} {p:Nat→Bool}:frzObj h p (rowG k enc l)=some (rowG k enc l):=by
 rw [q1V]
 simp only [frzObj,q0l,if_true]
end Go.Proofs.YtbibdnlbpjnieaaGreat
