/- Part 18 of the proof of TreeSteps. -/
import Derived.Test.YtbibdnlbpjnieaaGreatS17
set_option linter.all false
set_option maxRecDepth 100000
set_option maxHeartbeats 4000000
namespace Go.Proofs.YtbibdnlbpjnieaaGreat
open Go Go.Abs
def cpX (x:Bx):Bx:=if x.z=true then x else ⟨false,false,false,false,x.b⟩
def cpL (l:List Bx) (i:Nat):List Bx:=(l.take i).map cpX++l.drop i
theorem qgv (l:List Bx) (i:Nat):(cpL l i).length=l.length:=by simp [cpL]; omega
theorem qgw {l:List Bx} {i:Nat} {x:Bx} (h:l[i]? = some x):(cpL l i)[i]? = some x:=by
 have hi:i < l.length:=(List.getElem?_eq_some_iff.1 h).1
 rw [cpL,List.getElem?_append_right (by simp; omega)]
 simp only [List.length_map,List.length_take,Nat.min_eq_left (Nat.le_of_lt hi),Nat.sub_self,List.getElem?_drop,Nat.add_zero]
 exact h
theorem qgx {l:List Bx} {i:Nat} {x:Bx} (h:l[i]? = some x):(cpL l i).set i (cpX x)=cpL l (i+1):=by
 have hi:i < l.length:=(List.getElem?_eq_some_iff.1 h).1
 have hx:l[i]=x:=(List.getElem?_eq_some_iff.1 h).2
 rw [cpL,cpL,List.set_append,if_neg (by simp; omega),List.drop_eq_getElem_cons hi,hx]
 have:i - ((l.take i).map cpX).length=0:=by simp; omega
 rw [this,List.set_cons_zero,List.take_succ_eq_append_getElem hi,hx]
 simp
theorem qgy (l:List Bx):cpL l 0=l:=by simp [cpL]
theorem qgz (l:List Bx):cpL l l.length=l.map cpX:=by simp [cpL]
def nwA (d o:Nat) (w:Nw):List AV:=[.t (I w.t.nodes),.t (.sl false 1 (w.t.station.map B)),.t (.sl false 4 (w.t.links.map encK)),.t (.sl false 1 (w.prios.map I)),.ms d w.down.length 0 w.down.length 1 false,.ms o w.bs.length 0 w.bs.length 5 true]
def dnRow (w:Nw):AObj:=.row 1 ((w.down.map B).map .t) 0
def bsRow (l:List Bx) (mr:Nat):AObj:=.row 5 ((l.map encX).map .t) mr
theorem q2s (f:Fl) (w:Nw) (hd:w.down≠[]) (b1:w.prios.length≤900) (b2:w.down.length≤900) (b3:w.bs.length≤900) (b4:w.t.station.length≤900) (b5:w.t.links.length≤900)
  (b6:∀ x∈w.bs,x.b.ports.length≤900∧x.b.costs.length≤900∧x.b.heard.length≤900)
  (m dd nn:Nat) (hn:1000 < nn) (Q:AV→Heap→Prop)
  (hQ:∀ mr,mr≤w.bs.length→Q (.agg (nwA (m+1) (m+3) w)) (List.replicate m .gone++[.row 6 [.agg (nwA (m+1) (m+3) w)] 1,dnRow w,.row 6 [.agg (nwA (m+1) (m+3) w)] 1,bsRow (w.bs.map cpX) mr])) :
  oB (inl Tryz.prog pol (ans Tryz.prog pol) nn (dd+2) (.fn 30) [.t (nwT f w)] (List.replicate m .gone)) Q:=by
 have k1:=q3v f.pr w.prios (by omega)
 have k3:=qgq f.lk w.t.links (by omega)
 have hroom:88*w.bs.length≤roomB:=by rw [Nat.mul_comm]; exact q07 (by omega) (by omega)
 have hbig:w.bs.length≤9223372036854775807:=by omega
 have prd:primB pol 71 [.t (.sl f.dn 1 (w.down.map B))]=false:=by
  obtain ⟨b,l,hl⟩:=List.exists_cons_of_ne_nil hd
  rw [hl]; simp only [List.map_cons,q5j]
 refine q0b il30_eq (Nat.le_of_ble_eq_true rfl) ?_
 (repeat' first|simp only [il30c,go_sem,k1,prd,List.length_replicate]|with_reducible refine wX fun _=>?_|((with_reducible refine wY ?_ ?_); rfl)|fail)
 refine qgu f.dn w.down (by omega) hd (m+1) dd nn (by omega) _ ?_
 have k2:=qgl f.st w.t.station (by omega)
 have rgd:∀ (a:AObj) (l:Heap),(List.replicate m AObj.gone++a::l)[m]? = some a:=fun a l=>qgr
 have rg1:∀ (a b:AObj) (l:Heap),(List.replicate m AObj.gone++a::b::l)[m+1]? = some b:=fun a b l=>q2r (l:=a::b::l) (j:=1)
 have rg2:∀ (a b c:AObj) (l:Heap),(List.replicate m AObj.gone++a::b::c::l)[m+2]? = some c:=fun a b c l=>q2r (l:=a::b::c::l) (j:=2)
 have rg3:∀ (a b c d:AObj) (l:Heap),(List.replicate m AObj.gone++a::b::c::d::l)[m+3]? = some d:=fun a b c d l=>q2r (l:=a::b::c::d::l) (j:=3)
 have rg4:∀ (a b c d x:AObj) (l:Heap),(List.replicate m AObj.gone++a::b::c::d::x::l)[m+4]? = some x:=fun a b c d x l=>q2r (l:=a::b::c::d::x::l) (j:=4)
 have rs0:∀ (a y:AObj) (l:Heap),List.set (List.replicate m AObj.gone++a::l) m y=List.replicate m AObj.gone++y::l:=fun a y l=>qgs
 have rs2:∀ (a b c y:AObj) (l:Heap),List.set (List.replicate m AObj.gone++a::b::c::l) (m+2) y=List.replicate m AObj.gone++a::b::y::l:=fun a b c y l=>q3w (l:=a::b::c::l) (j:=2)
 have rs3:∀ (a b c d y:AObj) (l:Heap),List.set (List.replicate m AObj.gone++a::b::c::d::l) (m+3) y=List.replicate m AObj.gone++a::b::c::y::l:=fun a b c d y l=>q3w (l:=a::b::c::d::l) (j:=3)
 have rs4:∀ (a b c d x y:AObj) (l:Heap),List.set (List.replicate m AObj.gone++a::b::c::d::x::l) (m+4) y=List.replicate m AObj.gone++a::b::c::d::y::l:=fun a b c d x y l=>q3w (l:=a::b::c::d::x::l) (j:=4)
 have cp:=fun (hx:Heap)=>q1o (size:=5) (n:=w.bs.length) (o:=m+3) (mr:=0) (h:=hx) (xs:=(w.bs.map encX).map .t) (elems:=List.replicate w.bs.length (.t (encX zBx))) (by simp) (by simp) (Nat.zero_le _)
 have hz:encX zBx=.agg [I 0,I 0,.sc (.slice none 0 0),.sc (.slice none 0 0),.sc (.slice none 0 0)]:=rfl
 simp only [hz] at cp
 (repeat' first|simp only [il30c,go_sem,k1,k2,k3,q3x,rgd,rg1,rg2,rg3,rs0,rs2,rs3,rs4,List.length_replicate,List.append_assoc,hroom,hbig,cp]|with_reducible refine wX fun _=>?_|((with_reducible refine wY ?_ ?_); rfl)|fail)
 refine ⟨⟨by omega,by simp⟩,by omega,by omega,?_,?_⟩
 ·have s1:m+3 - (m+2)=1:=by omega
  have s2:m+2 - (m+1)=1:=by omega
  simp [critOk,apartB,s1,s2,List.range'_succ]
 have l3:∀ (a b c:AObj),(List.replicate m AObj.gone++[a,b,c]).length=m+3:=fun a b c=>by simp
 (repeat' first|simp only [go_sem,k1,k2,k3,q3x,rgd,rg1,rg2,rg3,rs0,rs2,rs3,rs4,List.length_replicate,List.append_assoc,hroom,hbig,cp]|with_reducible refine wX fun _=>?_|((with_reducible refine wY ?_ ?_); rfl)|fail)
 have hz6:∃ z6:AObj,z6=.row 6 [.t (.agg [I 0,.sc (.slice none 0 0),.sc (.slice none 0 0),.sc (.slice none 0 0),.sc (.slice none 0 0),.sc (.slice none 0 0)])] 0:=⟨_,rfl⟩
 refine q04 w.bs encX (step:=fun i x (_:Unit)=>Ctl.go ()) (fin:=id)
  (St:=fun i _ e h=>(e 2=.ref m 1 0 0∧e 3=.ref (m+2) 1 0 0∧e 38=.t (.sl f.bs 5 (w.bs.map encX))∧e 39=.t (I (w.bs.length:Nat))∧e 40=.t (I (i:Nat))) ∧
   h=List.replicate m .gone++[.row 6 [.t (.agg [I 0,.sc (.slice none 0 0),.sc (.slice none 0 0),.sc (.slice none 0 0),.sc (.slice none 0 0),.sc (.slice none 0 0)])] 0,dnRow w,.row 6 [.agg (nwA (m+1) (m+3) w)] 1,bsRow (cpL w.bs i) w.bs.length])
  (Ex:=fun _ x e h=>(e 2=.ref m 1 0 0∧e 3=.ref (m+2) 1 0 0)∧x=.exit 0 ∧
   h=List.replicate m .gone++[.row 6 [.t (.agg [I 0,.sc (.slice none 0 0),.sc (.slice none 0 0),.sc (.slice none 0 0),.sc (.slice none 0 0),.sc (.slice none 0 0)])] 0,dnRow w,.row 6 [.agg (nwA (m+1) (m+3) w)] 1,bsRow (w.bs.map cpX) w.bs.length]) (s:=()) (by omega) ?_ ?_ (by omega) ?_ ?_
 ·intro i x _ e h Y R hm hi hx hget hlt hw ⟨hs,hh⟩ hk
  subst hh
  simp only [q01] at hk
  obtain ⟨p1,p2,p3⟩:=b6 x hm
  have hl:=qgv w.bs i
  have hgx:(((cpL w.bs i).map encX).map AV.t)[i]? = some (.t (encX x)):=q0c (enc:=encX) (qgw hx)
  have hset:=map_set (enc:=encX) (l:=cpL w.bs i) (i:=i) (x:=cpX x)
  rw [qgx hx] at hset
  have hlE:(((cpL w.bs i).map encX).map AV.t).length=w.bs.length:=by simp [hl]
  simp only [bsRow] at hk ⊢
  have hav:∀ (p:Nat→Bool) (y:T),avoidAll p ((((cpL w.bs i).map encX).map AV.t).set i (.t y))=true:=fun p y=>by rw [← List.map_set,q0i]
  rw [← hset] at hk
  generalize ((cpL w.bs i).map encX).map AV.t=E at *
  have hE1:∀ y:AV,(E.set i y)[i]? = some y:=fun y=>by rw [List.getElem?_set_self (by omega)]
  have hE2:∀ y:AV,(E.set i y).length=w.bs.length:=fun y=>by simp [hlE]
  have hE3:∀ y z:AV,(E.set i y).set i z=E.set i z:=fun y z=>by simp
  have h45:m+4 < m+5:=by omega
  have fz:∀ hx:Heap,frzObj hx (fromB (m+4)) (.row 6 [.agg (nwA (m+1) (m+3) w)] 1)=some (.row 6 [.agg (nwA (m+1) (m+3) w)] 1):=fun hx=>q5s (by simp [nwA,avoidAll,avoid,fromB])
  simp only [nwA] at fz
  have fr0:∀ hx:Heap,frz hx (fromB (m+4)) (.ref m 1 0 0)=some (.ref m 1 0 0):=fun hx=>q3i (by simp [fromB])
  have fr2:∀ hx:Heap,frz hx (fromB (m+4)) (.ref (m+2) 1 0 0)=some (.ref (m+2) 1 0 0):=fun hx=>q3i (by simp [fromB])
  have f0:decide (m+4≤m)=false:=decide_eq_false (by omega)
  have f1:decide (m+4≤m+1)=false:=decide_eq_false (by omega)
  have f2:decide (m+4≤m+2)=false:=decide_eq_false (by omega)
  have f3:decide (m+4≤m+3)=false:=decide_eq_false (by omega)
  have hi':i < w.bs.length:=hi
  have rt4:∀ (a b c d x:AObj) (l:Heap),(List.replicate m AObj.gone++a::b::c::d::x::l).take (m+4)=List.replicate m AObj.gone++[a,b,c,d]:=fun a b c d x l=>qgt (l:=a::b::c::d::x::l) (j:=4)
  have n1:=qgj
  have n2:=qgn
  obtain ⟨z,c1,c2,c3,b⟩:=x
  dsimp only at p1 p2 p3
  cases z with
  | true =>
   simp only [encX,bxC,cpX,if_true] at hgx hget hk
   have hcell:(T.agg [I 0,I 0,.sc (.slice none 0 0),.sc (.slice none 0 0),.sc (.slice none 0 0)]).cells=[I 0,I 0,.sc (.slice none 0 0),.sc (.slice none 0 0),.sc (.slice none 0 0)]:=rfl
   (repeat' first|simp only [il30l0_go,il30l0b,go_sem,hs,hget,hlt,hw,hcell,nwA,rgd,rg1,rg2,rg3,rg4,rs0,rs2,rs3,rs4,q65,rt4,q64,List.length_replicate,List.append_assoc,hgx,hlE,hE1,hE2,hE3,hi',n1,n2,hav,h45,f0,f1,f2,f3,fz,dnRow]|with_reducible refine wX fun _=>?_|((with_reducible refine wY ?_ ?_); rfl)|fail)
   all_goals (refine hk _ _ ⟨?_,?_⟩ <;> simp only [go_sem,hs,hw,fr0,fr2,dnRow,nwA])
  | false =>
   simp only [encX,bxC,cpX,Bool.false_eq_true,if_false] at hgx hget hk
   have hcell:(T.agg (brC c1 c2 c3 b)).cells=brC c1 c2 c3 b:=rfl
   have m1:=q3v c1 b.ports (by omega)
   have m2:=q3v c2 b.costs (by omega)
   have m3:=qgo c3 b.heard (by omega)
   (repeat' first|simp only [il30l0_go,il30l0b,go_sem,hs,hget,hlt,hw,hcell,nwA,rgd,rg1,rg2,rg3,rg4,rs0,rs2,rs3,rs4,q65,rt4,q64,List.length_replicate,List.append_assoc,hgx,hlE,hE1,hE2,hE3,hi',m1,m2,m3,hav,h45,f0,f1,f2,f3,fz,dnRow]|with_reducible refine wX fun _=>?_|((with_reducible refine wY ?_ ?_); rfl)|fail)
   all_goals (refine hk _ _ ⟨?_,?_⟩ <;> simp only [go_sem,hs,hw,fr0,fr2,dnRow,nwA])
 ·intro _ e h Y R hlt ⟨hs,hh⟩ hk
  subst hh
  (repeat' first|simp only [il30l0_go,il30l0b,go_sem,hs,hlt]|with_reducible refine wX fun _=>?_|((with_reducible refine wY ?_ ?_); rfl)|fail)
  all_goals (refine hk _ _ _ ⟨?_,rfl,?_⟩ <;> simp only [go_sem,hs,qgz])
 ·refine ⟨?_,?_⟩
  ·simp only [go_sem]
  ·simp only [qgy,bsRow,dnRow,nwA]
 ·intro x e h ⟨h1,h2,h3⟩
  subst h2 h3
  have hq:=hQ w.bs.length (Nat.le_refl _)
  simp only [nwA] at hq ⊢
  (repeat' first|simp only [il30c,go_sem,h1,rgd,rg2,rs0,q3x]|with_reducible refine wX fun _=>?_|((with_reducible refine wY ?_ ?_); rfl)|fail)
  exact hq
end Go.Proofs.YtbibdnlbpjnieaaGreat
namespace Go.Proofs.YtbibdnlbpjnieaaGreat
open Go Go.Abs
theorem qgA {o q i k:Nat} {h:Heap}:iBox false (.ref o q i k) h=some (.val (.ref h.length 1 0 0) (h++[.row 1 [.ref o q i k] 0])):=(fun x=>x) rfl
theorem qgB {cs:List AV} {h:Heap}:iBox false (.agg cs) h=if storableAll cs && !cs.isEmpty then some (.val (.ref h.length 1 0 0) (h++[.row cs.length [.agg cs] 0])) else none:=(fun x=>x) rfl
attribute [go_sem] qgA qgB q3n
def stS {σ:Type} (t:Tpo) (nx:σ→Nat→σ) (s:σ) (n:Nat):σ:=if stA t n=true then s else nx s n
section
variable {σ:Type} (hp:σ→Heap) (N:Nat) (hN:∀ s,(hp s).length=N) (nx:σ→Nat→σ) (dd nn o:Nat) (Iv:Nat→σ→Prop) (w:Nw)
 (hiv:∀ n s,n < w.bs.length→Iv n s→Iv (n+1) (stS w.t nx s n))
 (hfz:∀ (s:σ) (h:Heap) (q:Nat),N≤q→mapO (frzObj h (fromB q)) (hp s)=some (hp s)) (hoN:o < N)
include hN hiv hfz hoN
theorem q3y (f:Fl) (hst:(w.t.station.length:Int)=w.t.nodes) (hbl:(w.bs.length:Int)=w.t.nodes) (hb:w.bs.length≤100)
  (hy:∀ (s:σ) (n:Nat) (x:Bx) (Q:AV→Heap→Prop),w.bs[n]? = some x→stA w.t n=false→Iv n s→(∀ X',Q (.t (B true)) (hp (nx s n)++[.row 5 [.t (.agg (bxC x))] 1]++X'))→oB (inl Tryz.prog pol (ans Tryz.prog pol) nn dd (.yl o) [.t (I (n:Nat)),.t (.agg (bxC x))] (hp s++[.row 5 [.t (.agg (bxC x))] 1])) Q)
  (s:σ) (h0:Iv 0 s) (Q:AV→Heap→Prop) (hn:200 < nn) (hQ:∀ v,Q v (hp ((List.range w.bs.length).foldl (stS w.t nx) s))) :
  oB (inl Tryz.prog pol (ans Tryz.prog pol) nn (dd+1) (.fn 74) [.yl o,.t (.ip (nwC f w))] (hp s)) Q:=by
 refine q0b il74_eq (Nat.le_of_ble_eq_true rfl) ?_
 have g1:∀ (s:σ) (x:AObj) (Y:Heap),(hp s++(x::Y))[N]? = some x:=fun s x Y=>by rw [List.getElem?_append_right (by rw [hN]; omega),hN,Nat.sub_self]; rfl
 have g4:∀ (s:σ) (x y:AObj),(hp s++[x]).set N y=hp s++[y]:=fun s x y=>by
  show List.set (hp s++[x]:List AObj) N y=_
  rw [List.set_append]
  simp [hN]
 have g5:∀ (s:σ) (Y:Heap),(hp s++Y).take N=hp s:=fun s Y=>by rw [List.take_append,hN,List.take_of_length_le (by rw [hN]; omega)]; simp
 have g6:∀ (s:σ) (hx:Heap),mapO (frzObj hx (fromB N)) (hp s)=some (hp s):=fun s hx=>hfz s hx N (Nat.le_refl _)
 have hlen:∀ (s:σ) (Y:Heap),(hp s++Y).length=N+Y.length:=fun s Y=>by simp [hN]
 have f2:decide (N≤o)=false:=decide_eq_false (by omega)
 have f4:∀ k,N < N+(k+1):=fun k=>by omega
 have f5:N < N+1:=by omega
 (repeat' first|simp only [il74c,go_sem,hN]|with_reducible refine wX fun _=>?_|((with_reducible refine wY ?_ ?_); rfl)|fail)
 refine q04 w.bs encX (step:=fun n _ s=>.go (stS w.t nx s n)) (fin:=id)
  (St:=fun n s e h=>(e 0=.yl o∧e 1=.t (.ip (nwC f w))∧e 7=.t (.sl f.bs 5 (w.bs.map encX))∧e 8=.t (I (w.bs.length:Nat))∧e 9=.t (I (n:Nat)))∧h=hp s∧Iv n s)
  (Ex:=fun s x e h=>x=.exit 0∧h=hp s) (s:=s) (by omega) ?_ ?_ (by omega) ?_ ?_
 ·intro n x s e h Y R hm hi hx hget hlt hw ⟨hs,hh,hI⟩ hk
  subst hh
  simp only [q01] at hk
  have hI2:=hiv n s hi hI
  have g7:(w.t.station.map B)[n]? = some (B (stA w.t n)):=by simp [stA,show n < w.t.station.length by omega]
  have hcell:(T.agg (bxC x)).cells=bxC x:=rfl
  have h5:(bxC x).length=5:=by unfold bxC; split <;> rfl
  have h5t:(bxC x).take 5=bxC x:=List.take_of_length_le (by omega)
  have h5m:((bxC x).map AV.t).take 5=(bxC x).map AV.t:=List.take_of_length_le (by simp; omega)
  have hsto:storableAll ((bxC x).map .t)=true:=by unfold bxC; split <;> simp only [go_sem]
  have y1:=hy s n x
  simp only [encX] at hget
  simp only [stS] at hk hI2
  generalize bxC x=bc at *
  cases hst':stA w.t n with
  | true =>
   rw [hst'] at g7
   rw [if_pos hst'] at hk hI2
   (repeat' first|simp only [il74l0_go,il74l0b,go_sem,hs,hget,hlt,hw,hN,g1,g4,g5,g6,hlen,f2,f5,q0d,g7,hcell,h5,h5t,h5m,hsto]|with_reducible refine wX fun _=>?_|((with_reducible refine wY ?_ ?_); rfl)|fail)
   all_goals (refine hk _ _ ⟨?_,rfl,hI2⟩; simp only [go_sem,hs,hw,f2,q0d])
  | false =>
   rw [hst'] at g7
   rw [if_neg (by rw [hst']; simp)] at hk hI2
   (repeat' first|simp only [il74l0_go,il74l0b,go_sem,hs,hget,hlt,hN,g1,g4,hlen,g7,hcell,h5,h5t,h5m,hsto]|with_reducible refine wX fun _=>?_|((with_reducible refine wY ?_ ?_); rfl)|fail)
   refine y1 _ hx hst' hI ?_
   intro X'
   (repeat' first|simp only [il74l0_go,il74l0b,go_sem,hs,hw,List.append_assoc,g1,hlen,f2,f4,g5,g6,q0d]|with_reducible refine wX fun _=>?_|((with_reducible refine wY ?_ ?_); rfl)|fail)
   all_goals (refine hk _ _ ⟨?_,rfl,hI2⟩; simp only [go_sem,hs,hw,f2,q0d])
 ·intro s e h Y R hlt ⟨hs,hh,_⟩ hk
  subst hh
  (repeat' first|simp only [il74l0_go,il74l0b,go_sem,hs,hlt]|with_reducible refine wX fun _=>?_|((with_reducible refine wY ?_ ?_); rfl)|fail)
  all_goals (refine hk _ _ _ ?_; simp only [go_sem,id])
 ·refine ⟨?_,rfl,h0⟩
  simp only [go_sem]
 ·intro x e h ⟨h1,h2⟩
  subst h1
  have hf:∀ (l:List Bx) (i:Nat) (s:σ),foldC (ρ:=σ) (fun n _ s=>Ctl.go (stS w.t nx s n)) id i l s=(List.range' i l.length).foldl (stS w.t nx) s:=by
   intro l
   induction l with
   | nil=>intro i s; rfl
   | cons l ls ih =>
    intro i s
    rw [q0a (s':=stS w.t nx s i) rfl,ih,List.length_cons,List.range'_succ,List.foldl_cons]
  rw [hf,← List.range_eq_range'] at h2
  subst h2
  (repeat' first|simp only [il74c,go_sem]|with_reducible refine wX fun _=>?_|((with_reducible refine wY ?_ ?_); rfl)|fail)
  exact hQ _
theorem q1S (oc d ob mc:Nat) (hoc:oc < N) (hmc:mc≤1) (hob:ob < N) (L:σ→List Bx) (mr:σ→Nat) (hL:∀ s,(L s).length=w.bs.length) (hmr:∀ s,mr s≤w.bs.length)
  (hcap:∀ s Y,(hp s++Y)[oc]? = some (.row 6 [.agg (nwA d ob w)] mc)) (hbr:∀ s Y,(hp s++Y)[ob]? = some (bsRow (L s) (mr s))) (hst:(w.t.station.length:Int)=w.t.nodes) (hbl:(w.bs.length:Int)=w.t.nodes) (hb:w.bs.length≤100)
  (hy:∀ (s:σ) (n:Nat) (x:Bx) (Q:AV→Heap→Prop),(L s)[n]? = some x→stA w.t n=false→Iv n s→(∀ X',Q (.t (B true)) (hp (nx s n)++[.row 5 [.t (.agg (bxC x))] 1]++X'))→oB (inl Tryz.prog pol (ans Tryz.prog pol) nn dd (.yl o) [.t (I (n:Nat)),.t (.agg (bxC x))] (hp s++[.row 5 [.t (.agg (bxC x))] 1])) Q)
  (s:σ) (h0:Iv 0 s) (Q:AV→Heap→Prop) (hn:200 < nn) (hQ:∀ v,Q v (hp ((List.range w.bs.length).foldl (stS w.t nx) s))) :
  oB (inl Tryz.prog pol (ans Tryz.prog pol) nn (dd+1) (.fn 74) [.yl o,.ref oc 1 0 0] (hp s)) Q:=by
 refine q0b il74_eq (Nat.le_of_ble_eq_true rfl) ?_
 have g1:∀ (s:σ) (x:AObj) (Y:Heap),(hp s++(x::Y))[N]? = some x:=fun s x Y=>by rw [List.getElem?_append_right (by rw [hN]; omega),hN,Nat.sub_self]; rfl
 have g4:∀ (s:σ) (x y:AObj),(hp s++[x]).set N y=hp s++[y]:=fun s x y=>by
  show List.set (hp s++[x]:List AObj) N y=_
  rw [List.set_append]
  simp [hN]
 have g5:∀ (s:σ) (Y:Heap),(hp s++Y).take N=hp s:=fun s Y=>by rw [List.take_append,hN,List.take_of_length_le (by rw [hN]; omega)]; simp
 have g6:∀ (s:σ) (hx:Heap),mapO (frzObj hx (fromB N)) (hp s)=some (hp s):=fun s hx=>hfz s hx N (Nat.le_refl _)
 have hlen:∀ (s:σ) (Y:Heap),(hp s++Y).length=N+Y.length:=fun s Y=>by simp [hN]
 have f2:decide (N≤o)=false:=decide_eq_false (by omega)
 have f4:∀ k,N < N+(k+1):=fun k=>by omega
 have f5:N < N+1:=by omega
 have hcap0:∀ s,(hp s)[oc]? = some (.row 6 [.agg (nwA d ob w)] mc):=fun s=>by have:=hcap s []; rwa [List.append_nil] at this
 have hbr0:∀ s,(hp s)[ob]? = some (bsRow (L s) (mr s)):=fun s=>by have:=hbr s []; rwa [List.append_nil] at this
 have fo:decide (N≤oc)=false:=decide_eq_false (by omega)
 have fb:decide (N≤ob)=false:=decide_eq_false (by omega)
 simp only [nwA,bsRow] at hcap hbr hcap0 hbr0
 (repeat' first|simp only [il74c,go_sem,hN,hcap0,hmc]|with_reducible refine wX fun _=>?_|((with_reducible refine wY ?_ ?_); rfl)|fail)
 refine q04 (List.replicate w.bs.length ()) (fun _=>I 0) (step:=fun n _ s=>.go (stS w.t nx s n)) (fin:=id)
  (St:=fun n s e h=>(e 0=.yl o∧e 1=.ref oc 1 0 0∧e 7=.ms ob w.bs.length 0 w.bs.length 5 true∧e 8=.t (I (w.bs.length:Nat))∧e 9=.t (I (n:Nat)))∧h=hp s∧Iv n s)
  (Ex:=fun s x e h=>x=.exit 0∧h=hp s) (s:=s) (by simp; omega) ?_ ?_ (by simp; omega) ?_ ?_
 ·intro n _ s e h Y R hm hi _ _ hlt hw ⟨hs,hh,hI⟩ hk
  subst hh
  simp only [List.length_replicate] at hi hlt
  obtain ⟨x,hx⟩:∃ x,(L s)[n]? = some x:=⟨(L s)[n]'(by rw [hL]; exact hi),by simp [hL,hi]⟩
  have hget:(((L s).map encX).map AV.t)[n]? = some (.t (encX x)):=q0c (enc:=encX) hx
  have hLl:=hL s
  have hmrs:=hmr s
  simp only [q01] at hk
  have hI2:=hiv n s hi hI
  have g7:(w.t.station.map B)[n]? = some (B (stA w.t n)):=by simp [stA,show n < w.t.station.length by omega]
  have hcell:(T.agg (bxC x)).cells=bxC x:=rfl
  have h5:(bxC x).length=5:=by unfold bxC; split <;> rfl
  have h5t:(bxC x).take 5=bxC x:=List.take_of_length_le (by omega)
  have h5m:((bxC x).map AV.t).take 5=(bxC x).map AV.t:=List.take_of_length_le (by simp; omega)
  have hsto:storableAll ((bxC x).map .t)=true:=by unfold bxC; split <;> simp only [go_sem]
  have y1:=hy s n x
  simp only [encX] at hget
  simp only [stS] at hk hI2
  generalize bxC x=bc at *
  cases hst':stA w.t n with
  | true =>
   rw [hst'] at g7
   rw [if_pos hst'] at hk hI2
   (repeat' first|simp only [il74l0_go,il74l0b,go_sem,hs,hget,hlt,hw,hN,hcap,hbr,hcap0,hbr0,hmc,hi,hLl,hmrs,fo,fb,g1,g4,g5,g6,hlen,f2,f5,q0d,g7,hcell,h5,h5t,h5m,hsto]|with_reducible refine wX fun _=>?_|((with_reducible refine wY ?_ ?_); rfl)|fail)
   all_goals (refine hk _ _ ⟨?_,rfl,hI2⟩; simp only [go_sem,hs,hw,f2,fo,fb,q0d])
  | false =>
   rw [hst'] at g7
   rw [if_neg (by rw [hst']; simp)] at hk hI2
   (repeat' first|simp only [il74l0_go,il74l0b,go_sem,hs,hget,hlt,hN,hcap,hbr,hcap0,hbr0,hmc,hi,hLl,hmrs,g1,g4,hlen,g7,hcell,h5,h5t,h5m,hsto]|with_reducible refine wX fun _=>?_|((with_reducible refine wY ?_ ?_); rfl)|fail)
   refine y1 _ hx hst' hI ?_
   intro X'
   (repeat' first|simp only [il74l0_go,il74l0b,go_sem,hs,hw,List.append_assoc,g1,hlen,fo,fb,f2,f4,g5,g6,q0d]|with_reducible refine wX fun _=>?_|((with_reducible refine wY ?_ ?_); rfl)|fail)
   all_goals (refine hk _ _ ⟨?_,rfl,hI2⟩; simp only [go_sem,hs,hw,f2,fo,fb,q0d])
 ·intro s e h Y R hlt ⟨hs,hh,_⟩ hk
  subst hh
  simp only [List.length_replicate] at hlt hs
  (repeat' first|simp only [il74l0_go,il74l0b,go_sem,hs,hlt]|with_reducible refine wX fun _=>?_|((with_reducible refine wY ?_ ?_); rfl)|fail)
  all_goals (refine hk _ _ _ ?_; simp only [go_sem,id])
 ·refine ⟨?_,rfl,h0⟩
  simp only [go_sem]
 ·intro x e h ⟨h1,h2⟩
  subst h1
  have hf:∀ (l:List Unit) (i:Nat) (s:σ),foldC (ρ:=σ) (fun n _ s=>Ctl.go (stS w.t nx s n)) id i l s=(List.range' i l.length).foldl (stS w.t nx) s:=by
   intro l
   induction l with
   | nil=>intro i s; rfl
   | cons l ls ih =>
    intro i s
    rw [q0a (s':=stS w.t nx s i) rfl,ih,List.length_cons,List.range'_succ,List.foldl_cons]
  rw [hf,List.length_replicate,← List.range_eq_range'] at h2
  subst h2
  (repeat' first|simp only [il74c,go_sem]|with_reducible refine wX fun _=>?_|((with_reducible refine wY ?_ ?_); rfl)|fail)
  exact hQ _
end
end Go.Proofs.YtbibdnlbpjnieaaGreat
namespace Go.Proofs.YtbibdnlbpjnieaaGreat
open Go Go.Abs
def lt2 (a b c d:Int):Prop:=a < c∨a=c∧b < d
instance (a b c d:Int):Decidable (lt2 a b c d):=inferInstanceAs (Decidable (_∨_))
theorem qgC (a b c d:Int):decide (cmpL [a,b,0,0,0,0] [c,d,0,0,0,0] < 0)=decide (lt2 a b c d):=by
 congr 1
 rw [eq_iff_iff]
 simp only [cmpL,cmp3,lt2]
 by_cases h1:a < c
 ·simp [h1]
 ·by_cases h2:c < a
  ·simp [h1,h2]; omega
  ·have:a=c:=by omega
   subst this
   by_cases h3:b < d
   ·simp [h3]
   ·by_cases h4:d < b
    ·simp [h3,h4]
    ·have:b=d:=by omega
     subst this; simp
theorem qgD (a b c d:Int):ans Tryz.prog pol 140 [.agg [I a,I b],.agg [I c,I d]]=some (B (decide (lt2 a b c d))):=by
 have k1:=q5U a b 0 0 0 0 c d 0 0 0 0
 have k2:=qgC a b c d
 refine q00 1 1 il140_eq (Nat.le_of_ble_eq_true rfl) ?_
 (repeat' first|simp only [il140c,go_sem,k1,k2]|with_reducible refine wX fun _=>?_|((with_reducible refine wY ?_ ?_); rfl)|fail)
structure Tp where
 rp:Int
 rn:Int
 cost:Int
 via:Int
 age:Int
abbrev sbC (c1 c2 c3:Bool) (b:Br) (t:Tp):List T:=[I b.p,I b.n,.sl c1 1 (b.ports.map I),.sl c2 1 (b.costs.map I),.sl c3 8 (b.heard.map encH),I t.rp,I t.rn,I t.cost,I t.via,I t.age]
abbrev sbT (c1 c2 c3:Bool) (b:Br) (t:Tp):T:=.agg (sbC c1 c2 c3 b t)
abbrev rkT (h:Hd):T:=.agg [I h.a,I h.b,I h.c,I h.d,I h.e,I h.f]
def ofr (b:Br) (i:Nat):Hd:=⟨(hrd b i).is,(hrd b i).a,(hrd b i).b,(hrd b i).c+cst b i,(hrd b i).d,(hrd b i).e,(hrd b i).f,(hrd b i).g⟩
def leads (b:Br) (i:Nat):Bool:=(hrd b i).is && !decide (1048576 < (ofr b i).c) && decide (lt2 (hrd b i).a (hrd b i).b b.p b.n)
theorem qgE (c1 c2 c3:Bool) (b:Br) (t:Tp):ans Tryz.prog pol 120 [sbT c1 c2 c3 b t]=some (.fn (.func 139) [] [.ip (sbC c1 c2 c3 b t)]):=by
 refine q00 1 1 il120_eq (Nat.le_of_ble_eq_true rfl) ?_
 (repeat' first|simp only [il120c,go_sem]|with_reducible refine wX fun _=>?_|((with_reducible refine wY ?_ ?_); rfl)|fail)
section
variable {σ:Type} (hp:σ→Heap) (N:Nat) (hN:∀ s,(hp s).length=N) (nx:σ→Nat→σ) (dd nn o:Nat) (b:Br)
 (hy:∀ (s:σ) (i:Nat) (X:Heap) (Q:AV→Heap→Prop),i < b.heard.length→leads b i=true→(∀ X',Q (.t (B true)) (hp (nx s i)++X++X'))→oB (inl Tryz.prog pol (ans Tryz.prog pol) nn dd (.yl o) [.t (I (i:Nat)),.t (rkT (ofr b i))] (hp s++X)) Q)
 (hfz:∀ (s:σ) (h:Heap) (q:Nat),N≤q→mapO (frzObj h (fromB q)) (hp s)=some (hp s)) (hoN:o < N)
include hN hy hfz hoN
def ldS (b:Br) (nx:σ→Nat→σ) (s:σ) (i:Nat):σ:=if leads b i=true then nx s i else s
theorem qgF (c1 c2 c3:Bool) (t:Tp) (hlen:b.heard.length≤24) (hcl:b.costs.length=b.heard.length) (hbd:∀ i,i < b.heard.length → -1000000000≤(ofr b i).c∧(ofr b i).c≤1000000000) (s:σ) (Q:AV→Heap→Prop) (hn:100 < nn)
  (hQ:∀ v,Q v (hp ((List.range b.heard.length).foldl (ldS b nx) s))) :
  oB (inl Tryz.prog pol (ans Tryz.prog pol) nn (dd+1) (.fn 139) [.yl o,.t (.ip (sbC c1 c2 c3 b t))] (hp s)) Q:=by
 refine q0b il139_eq (Nat.le_of_ble_eq_true rfl) ?_
 have gA:∀ (s:σ) (x:AObj) (Y:Heap),(hp s++(x::Y))[N]? = some x:=fun s x Y=>by rw [List.getElem?_append_right (by rw [hN]; omega),hN,Nat.sub_self]; rfl
 have gB:∀ (s:σ) (x y:AObj) (Y:Heap),(hp s++(x::y::Y))[N+1]? = some y:=fun s x y Y=>by rw [List.getElem?_append_right (by rw [hN]; omega),hN,Nat.add_sub_cancel_left]; rfl
 have sA:∀ (s:σ) (x z:AObj) (Y:Heap),List.set (hp s++(x::Y):List AObj) N z=hp s++(z::Y):=fun s x z Y=>by
  rw [List.set_append]; simp [hN]
 have sB:∀ (s:σ) (x y z:AObj) (Y:Heap),List.set (hp s++(x::y::Y):List AObj) (N+1) z=hp s++(x::z::Y):=fun s x y z Y=>by
  rw [List.set_append]
  simp [hN]
  intro h; omega
 have tk:∀ (s:σ) (Y:Heap),(hp s++Y).take N=hp s:=fun s Y=>by
  rw [List.take_append,hN,List.take_of_length_le (by rw [hN]; omega)]; simp
 have g6:∀ (s:σ) (hx:Heap),mapO (frzObj hx (fromB N)) (hp s)=some (hp s):=fun s hx=>hfz s hx N (Nat.le_refl _)
 have hle:∀ (s:σ) (Y:Heap),(hp s++Y).length=N+Y.length:=fun s Y=>by simp [hN]
 have f2:decide (N≤o)=false:=decide_eq_false (by omega)
 (repeat' first|simp only [il139c,go_sem,hN]|with_reducible refine wX fun _=>?_|((with_reducible refine wY ?_ ?_); rfl)|fail)
 refine q04 b.heard encH (step:=fun i _ s=>.go (ldS b nx s i)) (fin:=id)
  (St:=fun k s e h=>(e 0=.yl o∧e 1=.t (.ip (sbC c1 c2 c3 b t))∧e 8=.t (.sl c3 8 (b.heard.map encH))∧e 9=.t (I (b.heard.length:Nat))∧e 10=.t (I (k:Nat)))∧h=hp s)
  (Ex:=fun s x e h=>x=.exit 0∧h=hp s) (s:=s) (by omega) ?_ ?_ (by omega) ?_ ?_
 ·intro i x s e h Y R hm hi hx hget hlt hw ⟨hs,hh⟩ hk
  subst hh
  simp only [q01] at hk
  have hb:=hbd i hi
  have hxe:x=hrd b i:=by simp [hrd,hx]
  have hcs:(b.costs.map I)[i]? = some (I (cst b i)):=by simp [cst,show i < b.costs.length by omega]
  have v1:IntKind.i64.wrap ((hrd b i).c+cst b i)=(hrd b i).c+cst b i:=q09 (by simp only [ofr] at hb; omega) (by simp only [ofr] at hb; omega)
  subst hxe
  have c2':N < N+(0+1+1):=by omega
  have k1:=qgD (hrd b i).a (hrd b i).b b.p b.n
  by_cases q0:(hrd b i).is=true
  rotate_left
  ·have q0':(hrd b i).is=false:=by simpa using q0
   have l0:ldS b nx s i=s:=by rw [ldS,if_neg (by simp [leads,q0'])]
   rw [l0] at hk
   (repeat' first|simp only [il139l0_go,il139l0b,go_sem,hs,hget,hlt,q02,hN,gA,gB,sA,sB,hle,hcs,v1,q0',tk,g6,c2',f2,q0d,List.append_assoc,hw]|with_reducible refine wX fun _=>?_|((with_reducible refine wY ?_ ?_); rfl)|fail)
   all_goals (refine hk _ _ ⟨?_,rfl⟩; simp only [go_sem,hs,hw,f2,q0d])
  by_cases q1:1048576 < (hrd b i).c+cst b i
  ·have d1:decide (1048576 < (hrd b i).c+cst b i)=true:=decide_eq_true q1
   have l0:ldS b nx s i=s:=by rw [ldS,if_neg (by simp [leads,ofr,q1])]
   rw [l0] at hk
   (repeat' first|simp only [il139l0_go,il139l0b,go_sem,hs,hget,hlt,q02,hN,gA,gB,sA,sB,hle,hcs,v1,q0,d1,tk,g6,c2',f2,q0d,List.append_assoc,hw]|with_reducible refine wX fun _=>?_|((with_reducible refine wY ?_ ?_); rfl)|fail)
   all_goals (refine hk _ _ ⟨?_,rfl⟩; simp only [go_sem,hs,hw,f2,q0d])
  have d1:decide (1048576 < (hrd b i).c+cst b i)=false:=decide_eq_false q1
  by_cases q2:lt2 (hrd b i).a (hrd b i).b b.p b.n
  rotate_left
  ·rw [decide_eq_false q2] at k1
   have l0:ldS b nx s i=s:=by rw [ldS,if_neg (by simp [leads,q2])]
   rw [l0] at hk
   (repeat' first|simp only [il139l0_go,il139l0b,go_sem,hs,hget,hlt,q02,hN,gA,gB,sA,sB,hle,hcs,v1,q0,d1,k1,tk,g6,c2',f2,q0d,List.append_assoc,hw]|with_reducible refine wX fun _=>?_|((with_reducible refine wY ?_ ?_); rfl)|fail)
   all_goals (refine hk _ _ ⟨?_,rfl⟩; simp only [go_sem,hs,hw,f2,q0d])
  ·rw [decide_eq_true q2] at k1
   have l1:leads b i=true:=by simp only [leads,ofr,q0,d1,decide_eq_true q2,Bool.not_false,Bool.and_self]
   have l0:ldS b nx s i=nx s i:=by rw [ldS,if_pos l1]
   rw [l0] at hk
   have hyi:=fun X Q=>hy s i X Q hi l1
   simp only [ofr] at hyi
   (repeat' first|simp only [il139l0_go,il139l0b,go_sem,hs,hget,hlt,q02,hN,gA,gB,sA,sB,hle,hcs,v1,q0,d1,k1,List.append_assoc]|with_reducible refine wX fun _=>?_|((with_reducible refine wY ?_ ?_); rfl)|fail)
   refine hyi _ _ ?_
   intro X'
   have c3':N < N+(0+1+1+X'.length):=by omega
   have c4':N < N+(X'.length+1+1):=by omega
   (repeat' first|simp only [il139l0_go,il139l0b,go_sem,hle,hw,tk,g6,c3',c4',f2,q0d,List.append_assoc]|with_reducible refine wX fun _=>?_|((with_reducible refine wY ?_ ?_); rfl)|fail)
   all_goals (refine hk _ _ ⟨?_,rfl⟩; simp only [go_sem,hs,hw,f2,q0d])
 ·intro s e h Y R hlt ⟨hs,hh⟩ hk
  subst hh
  (repeat' first|simp only [il139l0_go,il139l0b,go_sem,hs,hlt]|with_reducible refine wX fun _=>?_|((with_reducible refine wY ?_ ?_); rfl)|fail)
  all_goals (refine hk _ _ _ ?_; simp only [go_sem,id])
 ·simp only [go_sem]
 ·intro x e h ⟨h1,h2⟩
  subst h1
  have hf:∀ (r:List Hd) (k:Nat) (s:σ),foldC (ρ:=σ) (fun i _ s=>Ctl.go (ldS b nx s i)) id k r s=(List.range' k r.length).foldl (ldS b nx) s:=by
   intro r
   induction r with
   | nil=>intro k s; rfl
   | cons l r ih=>intro k s; rw [q0a (s':=ldS b nx s k) rfl,ih,List.length_cons,List.range'_succ]; rfl
  rw [hf,← List.range_eq_range'] at h2
  subst h2
  (repeat' first|simp only [il139c,go_sem]|with_reducible refine wX fun _=>?_|((with_reducible refine wY ?_ ?_); rfl)|fail)
  all_goals exact hQ _
end
end Go.Proofs.YtbibdnlbpjnieaaGreat
namespace Go.Proofs.YtbibdnlbpjnieaaGreat
open Go Go.Abs
structure Os' where
 t:Tp
 m:Hd
 w:Nat
def tp0 (b:Br):Tp:=⟨b.p,b.n,0,-1,0⟩
def opS (b:Br) (s:Os') (i:Nat):Os':=if s.t.via < 0∨lt6 (ofr b i) s.m < 0 then ⟨⟨(ofr b i).a,(ofr b i).b,(ofr b i).c,i,(ofr b i).g⟩,ofr b i,1⟩ else s
def opF (b:Br):Os':=(List.range b.heard.length).foldl (ldS b (opS b)) ⟨tp0 b,zH,0⟩
abbrev zS:T:=.agg [I 0,I 0,.sc (.slice none 0 0),.sc (.slice none 0 0),.sc (.slice none 0 0),I 0,I 0,I 0,I 0,I 0]
noncomputable def lpQ (rf:Code × Code) (E:FEnv):AObj:=.loop 85 (lpEnv 50 (tidyF (some [1,5,6]) E)) [22,23] rf.1 rf.2 false none
noncomputable def hpQ (rf:Code × Code) (c1 c2 c3:Bool) (b:Br) (E:FEnv) (s:Os'):Heap:=[.row 10 [.t zS] 0,.row 10 [.t (sbT c1 c2 c3 b s.t)] 1,.row 6 [.t (rkT s.m)] (min s.w 1),lpQ rf E]
theorem qgG (rf:Code × Code) (hrf:rfOf Tryz.prog 85 0=rf) (c1 c2 c3:Bool) (b:Br) (E:FEnv) (hE:E 1=.t (.ip (brC c1 c2 c3 b))∧E 5=.ref 1 1 0 0∧E 6=.ref 2 1 0 0) (dd nn:Nat) (s:Os') (i:Nat) (hi:i < b.heard.length) (X:Heap) (Q:AV→Heap→Prop)
  (hQ:∀ X',Q (.t (B true)) (hpQ rf c1 c2 c3 b E (opS b s i)++X++X')) :
  oB (inl Tryz.prog pol (ans Tryz.prog pol) nn (dd+1) (.yl 3) [.t (I (i:Nat)),.t (rkT (ofr b i))] (hpQ rf c1 c2 c3 b E s++X)) Q:=by
 subst hrf
 have hg:(b.heard.map encH)[i]? = some (encH (hrd b i)):=by simp [hrd,hi]
 have k1:=q1z (ofr b i) s.m
 have hgg:(ofr b i).g=(hrd b i).g:=rfl
 have hmr:min s.w 1≤1:=Nat.min_le_right _ _
 have hq:=hQ [.row 6 [.t (rkT (ofr b i))] 1]
 simp only [hpQ,lpQ] at hq ⊢
 refine oB_yl (E:=tidyF (some [1,5,6]) E) rfl rfl rfl il85r0a_eq il85r0b_eq ?_
 by_cases q0:s.t.via < 0
 ·have d0:decide (s.t.via < 0)=true:=decide_eq_true q0
  rw [opS,if_pos (.inl q0)] at hq
  simp only [hgg] at hq
  generalize ofr b i=v at *
  simp only [List.cons_append,List.nil_append] at hq
  (have hc:=hc0; repeat' first|simp only [hc,il85r0a,il85r0b,go_sem,hE,hg,q02,d0,q1p,q1q,hmr]|((with_reducible first|refine wG (fun hc=>?_) fun hc=>?_|refine wC (fun hc=>?_) fun hc=>?_) <;> try simp only [bq1,bq2] at hc)|with_reducible refine wX fun _=>?_|((with_reducible refine wY ?_ ?_); rfl)|fail)
  all_goals exact hq
 ·have d0:decide (s.t.via < 0)=false:=decide_eq_false q0
  by_cases q1:lt6 (ofr b i) s.m < 0
  ·have d1:decide (lt6 (ofr b i) s.m < 0)=true:=decide_eq_true q1
   rw [opS,if_pos (.inr q1)] at hq
   simp only [hgg] at hq
   generalize ofr b i=v at *
   simp only [List.cons_append,List.nil_append] at hq
   (have hc:=hc0; repeat' first|simp only [hc,il85r0a,il85r0b,go_sem,hE,hg,q02,d0,k1,d1,q1p,q1q,hmr]|((with_reducible first|refine wG (fun hc=>?_) fun hc=>?_|refine wC (fun hc=>?_) fun hc=>?_) <;> try simp only [bq1,bq2] at hc)|with_reducible refine wX fun _=>?_|((with_reducible refine wY ?_ ?_); rfl)|fail)
   all_goals exact hq
  ·have d1:decide (lt6 (ofr b i) s.m < 0)=false:=decide_eq_false q1
   rw [opS,if_neg (by rintro (h|h); exact q0 h; exact q1 h)] at hq
   generalize ofr b i=v at *
   simp only [List.cons_append,List.nil_append] at hq
   (have hc:=hc0; repeat' first|simp only [hc,il85r0a,il85r0b,go_sem,hE,hg,q02,d0,k1,d1,q1p,q1q,hmr]|((with_reducible first|refine wG (fun hc=>?_) fun hc=>?_|refine wC (fun hc=>?_) fun hc=>?_) <;> try simp only [bq1,bq2] at hc)|with_reducible refine wX fun _=>?_|((with_reducible refine wY ?_ ?_); rfl)|fail)
   all_goals exact hq
theorem qgH (rf:Code × Code) (c1 c2 c3:Bool) (b:Br) (E:FEnv) (hE:E 5=.ref 1 1 0 0∧E 6=.ref 2 1 0 0) (x:T) (h1:E 1=.t x) (s:Os') (h:Heap) (q:Nat) (hq:4≤q):mapO (frzObj h (fromB q)) (hpQ rf c1 c2 c3 b E s)=some (hpQ rf c1 c2 c3 b E s):=by
 have f1:decide (q≤1)=false:=decide_eq_false (by omega)
 have f2:decide (q≤2)=false:=decide_eq_false (by omega)
 have h4:frzObj h (fromB q) (lpQ rf E)=some (lpQ rf E):=by
  rw [lpQ,q0y]
  simp only [go_sem,hE,h1,f1,f2]
 have hr:∀ (k mr:Nat) (x:T),frzObj h (fromB q) (.row k [.t x] mr)=some (.row k [.t x] mr):=by intro k mr x; simp [frzObj,avoidAll,avoid]
 simp only [hpQ,mapO,hr,h4]
theorem q3z {b:Br} (h:okB b=true) (i:Nat) (hi:i < b.heard.length):-1000000000≤(ofr b i).c∧(ofr b i).c≤1000000000:=by
 have hl:=q0j h
 simp only [okL] at hl
 have h2:=q1Q h (i:=i) (by omega)
 rw [okAt,decide_eq_true_eq] at h2
 have hc:=h2.2.2.1
 have hh:=h2.2.2.2
 simp only [ofr]
 cases hx:(hrd b i).is with
 | true=>have:=hh.1 hx; simp only [helloP] at this; omega
 | false=>have:=hh.2 hx; rw [this]; simp only [zH]; omega
theorem q66 (c1 c2 c3:Bool) (b:Br) (hb:okB b=true):ans Tryz.prog pol 85 [brT c1 c2 c3 b]=some (.tup [sbT c1 c2 c3 b (opF b).t,I 0]):=by
 have k1:=q2q (c1:=c1) (c2:=c2) (c3:=c3) hb
 have hl:=q0j hb
 simp only [okL] at hl
 have k2:=qgE c1 c2 c3 b (tp0 b)
 simp only [tp0] at k2
 refine q00 200 5 il85_eq (Nat.le_of_ble_eq_true rfl) ?_
 simp only [il85c]
 generalize hrf:rfOf Tryz.prog 85 0=rf
 (have hc:=hc0; repeat' first|simp only [hc,il85c,go_sem,k1,k2]|((with_reducible first|refine wG (fun hc=>?_) fun hc=>?_|refine wC (fun hc=>?_) fun hc=>?_) <;> try simp only [bq1,bq2] at hc)|with_reducible refine wX fun _=>?_|((with_reducible refine wY ?_ ?_); rfl)|fail)
 have key:∀ E:FEnv,([.row 10 [.t zS] 0,.row 10 [.t (.agg [I b.p,I b.n,.sl c1 1 (b.ports.map I),.sl c2 1 (b.costs.map I),.sl c3 8 (b.heard.map encH),I b.p,I b.n,I 0,I (-1),I 0])] 1,.row 6 [.t (.agg [I 0,I 0,I 0,I 0,I 0,I 0])] 0,.loop 85 (lpEnv 50 (tidyF (some [1,5,6]) E)) [22,23] rf.1 rf.2 false none]:Heap)=hpQ rf c1 c2 c3 b E ⟨tp0 b,zH,0⟩:=fun E=>rfl
 rw [key]
 have h200:100 < 200:=by omega
 have h34:3 < 4:=by omega
 have hcl:b.costs.length=b.heard.length:=by omega
 have hhl:b.heard.length≤24:=by omega
 have hbd:=q3z hb
 with_reducible refine qgF (fun s=>hpQ rf c1 c2 c3 b _ s) 4 (fun s=>rfl) (opS b) 4 200 3 b ?_ ?_ h34 c1 c2 c3 ⟨b.p,b.n,0,-1,0⟩ hhl hcl hbd ⟨tp0 b,zH,0⟩ _ h200 ?_
 ·intro s i X Q hi hld hQ
  exact qgG rf hrf c1 c2 c3 b _ (by simp only [go_sem]) 3 200 s i hi X Q hQ
 ·intro s h q hq
  exact qgH rf c1 c2 c3 b _ (by simp only [go_sem]) (.ip (brC c1 c2 c3 b)) (by simp only [go_sem]) s h q hq
 ·intro x
  change rfEnd _ _ _ x (hpQ rf c1 c2 c3 b _ (opF b))
  generalize opF b=s
  have hmr:min s.w 1≤1:=Nat.min_le_right _ _
  simp only [hpQ,lpQ]
  have hr:∀ (h:Heap) (k mr:Nat) (x:T),frzObj h (fromB 3) (.row k [.t x] mr)=some (.row k [.t x] mr):=by intro h k mr x; simp [frzObj,avoidAll,avoid]
  (have hc:=hc0; repeat' first|simp only [hc,il85c,go_sem,hr,hmr]|((with_reducible first|refine wG (fun hc=>?_) fun hc=>?_|refine wC (fun hc=>?_) fun hc=>?_) <;> try simp only [bq1,bq2] at hc)|with_reducible refine wX fun _=>?_|((with_reducible refine wY ?_ ?_); rfl)|fail)
end Go.Proofs.YtbibdnlbpjnieaaGreat
namespace Go.Proofs.YtbibdnlbpjnieaaGreat
open Go Go.Abs
def clm (b:Br) (t:Tp) (i:Nat):Hd:=⟨true,t.rp,t.rn,t.cost,b.p,b.n,prt b i,t.age⟩
def roleF (b:Br) (t:Tp) (i:Nat):Int:=if (i:Int)=t.via then 1 else if (hrd b i).is=false∨lt6 (clm b t i) (hrd b i) < 0 then 2 else 3
def sentF (b:Br) (t:Tp) (i:Nat):Hd:=if roleF b t i=2 then clm b t i else zH
section
variable (c1 c2 c3:Bool) (b:Br) (t:Tp)
theorem q67 (i:Nat) (hi:i < b.ports.length):ans Tryz.prog pol 121 [sbT c1 c2 c3 b t,I (i:Nat)]=some (rkT (clm b t i)):=by
 have hg:(b.ports.map I)[i]? = some (I (prt b i)):=by simp [prt,hi]
 refine q00 1 1 il121_eq (Nat.le_of_ble_eq_true rfl) ?_
 simp only [clm]
 generalize prt b i=P at *
 (repeat' first|simp only [il121c,go_sem,hg]|with_reducible refine wX fun _=>?_|((with_reducible refine wY ?_ ?_); rfl)|fail)
theorem q68 (i:Nat) (hi:i < b.ports.length) (hh:b.heard.length=b.ports.length):ans Tryz.prog pol 87 [sbT c1 c2 c3 b t,I (i:Nat)]=some (I (roleF b t i)):=by
 have hg:(b.heard.map encH)[i]? = some (encH (hrd b i)):=by simp [hrd,show i < b.heard.length by omega]
 have k1:=q67 c1 c2 c3 b t i hi
 have k2:=q1z (clm b t i) (hrd b i)
 refine q00 1 1 il87_eq (Nat.le_of_ble_eq_true rfl) ?_
 by_cases q0:(i:Int)=t.via
 ·have d0:decide ((i:Int)=t.via)=true:=decide_eq_true q0
  rw [roleF,if_pos q0]
  (repeat' first|simp only [il87c,go_sem,hg,q02,d0]|with_reducible refine wX fun _=>?_|((with_reducible refine wY ?_ ?_); rfl)|fail)
 have d0:decide ((i:Int)=t.via)=false:=decide_eq_false q0
 rw [roleF,if_neg q0]
 by_cases q1:(hrd b i).is=false
 ·rw [if_pos (.inl q1)]
  (repeat' first|simp only [il87c,go_sem,hg,q02,d0,q1]|with_reducible refine wX fun _=>?_|((with_reducible refine wY ?_ ?_); rfl)|fail)
 have q1':(hrd b i).is=true:=by simpa using q1
 by_cases q2:lt6 (clm b t i) (hrd b i) < 0
 ·have d2:decide (lt6 (clm b t i) (hrd b i) < 0)=true:=decide_eq_true q2
  rw [if_pos (.inr q2)]
  (repeat' first|simp only [il87c,go_sem,hg,q02,d0,q1',k1,k2,d2]|with_reducible refine wX fun _=>?_|((with_reducible refine wY ?_ ?_); rfl)|fail)
 ·have d2:decide (lt6 (clm b t i) (hrd b i) < 0)=false:=decide_eq_false q2
  rw [if_neg (by rintro (h|h); exact q1 h; exact q2 h)]
  (repeat' first|simp only [il87c,go_sem,hg,q02,d0,q1',k1,k2,d2]|with_reducible refine wX fun _=>?_|((with_reducible refine wY ?_ ?_); rfl)|fail)
theorem qgI (i:Nat) (hi:i < b.ports.length) (hh:b.heard.length=b.ports.length):ans Tryz.prog pol 129 [sbT c1 c2 c3 b t,I (i:Nat)]=some (hdT (sentF b t i)):=by
 have k1:=q67 c1 c2 c3 b t i hi
 have k2:=q68 c1 c2 c3 b t i hi hh
 refine q00 1 1 il129_eq (Nat.le_of_ble_eq_true rfl) ?_
 by_cases q:roleF b t i=2
 ·have d1:decide (roleF b t i=2)=true:=decide_eq_true q
  rw [sentF,if_pos q]
  simp only [clm] at k1 ⊢
  (repeat' first|simp only [il129c,go_sem,k1,k2,d1]|with_reducible refine wX fun _=>?_|((with_reducible refine wY ?_ ?_); rfl)|fail)
 ·have d1:decide (roleF b t i=2)=false:=decide_eq_false q
  rw [sentF,if_neg q]
  simp only [zH]
  (repeat' first|simp only [il129c,go_sem,k1,k2,d1]|with_reducible refine wX fun _=>?_|((with_reducible refine wY ?_ ?_); rfl)|fail)
theorem qgJ (hl:b.ports.length≤1000) (hh:b.heard.length=b.ports.length):ans Tryz.prog pol 86 [sbT c1 c2 c3 b t,.fn (.func 87) [sbT c1 c2 c3 b t] []]=some (.sl true 1 (((List.range b.ports.length).map (roleF b t)).map I)):=by
 have hroom:8*b.ports.length≤roomB:=by rw [Nat.mul_comm]; exact q07 (by omega) (by omega)
 have hbig:b.ports.length≤9223372036854775807:=by omega
 refine q00 2000 1 il86_eq (Nat.le_of_ble_eq_true rfl) ?_
 (repeat' first|simp only [il86c,go_sem,hroom,hbig]|with_reducible refine wX fun _=>?_|((with_reducible refine wY ?_ ?_); rfl)|fail)
 refine q0D b.ports.length (step:=fun i (_:Unit)=>Ctl.go ()) (fin:=id)
  (St:=fun i _ e h=>(e 1=.t (.fn (.func 87) [sbT c1 c2 c3 b t] [])∧e 5=.ms 0 b.ports.length 0 b.ports.length 1 true∧e 13=.t (I (b.ports.length:Nat))∧e 14=.t (I (i:Nat)))∧∃ mr,mr≤b.ports.length∧h=[.row 1 (((fillL (roleF b t) (0:Int) b.ports.length i).map I).map .t) mr])
  (Ex:=fun _ x e h=>e 5=.ms 0 b.ports.length 0 b.ports.length 1 true∧x=.exit 0∧∃ mr,mr≤b.ports.length∧h=[.row 1 ((((List.range b.ports.length).map (roleF b t)).map I).map .t) mr]) (s:=()) (by omega) ?_ ?_ (by omega) ?_ ?_
 ·intro i _ e h Y R hi hlt hw ⟨hs,mr,hmr,hh'⟩ hk
  subst hh'
  simp only [q01] at hk
  have k1:=q68 c1 c2 c3 b t i hi hh
  have hset:=q0Q (f:=roleF b t) (z:=(0:Int)) hi rfl
  have hlen:=q0X (roleF b t) (0:Int) (Nat.le_of_lt hi)
  generalize hL:fillL (roleF b t) (0:Int) b.ports.length i=L at *
  obtain ⟨old,hold⟩:∃ w,L[i]? = some w:=⟨L[i]'(by omega),by simp⟩
  have hget:(List.map AV.t (List.map I L))[i]? = some (.t (I old)):=q0c (enc:=I) hold
  have hst':=map_set (enc:=I) (l:=L) (i:=i) (x:=roleF b t i)
  rw [hset] at hst'
  generalize hB:roleF b t i=v at *
  (repeat' first|simp only [il86l0_go,il86l0b,go_sem,hs,hlt,k1,hget,hlen,hmr,hi,hw,hst',q0Y]|with_reducible refine wX fun _=>?_|((with_reducible refine wY ?_ ?_); rfl)|fail)
  all_goals (refine hk _ _ ⟨?_,b.ports.length,Nat.le_refl _,?_⟩ <;> simp only [go_sem,hs,hw])
 ·intro _ e h Y R hlt ⟨hs,mr,hmr,hh'⟩ hk
  subst hh'
  (repeat' first|simp only [il86l0_go,il86l0b,go_sem,hs,hlt,q0Y]|with_reducible refine wX fun _=>?_|((with_reducible refine wY ?_ ?_); rfl)|fail)
  all_goals (refine hk _ _ _ ⟨?_,rfl,mr,hmr,?_⟩ <;> (try simp only [go_sem,hs]))
  all_goals simp only [q18,id]
 ·refine ⟨?_,0,by omega,?_⟩
  ·simp only [go_sem]
  ·rw [q17]; simp
 ·intro x e h ⟨h1,h2,mr,hmr,h3⟩
  subst h2 h3
  have hll:((List.range b.ports.length).map (roleF b t)).length=b.ports.length:=by simp
  generalize (List.range b.ports.length).map (roleF b t)=L at *
  (repeat' first|simp only [il86c,go_sem,h1,hll,hmr]|with_reducible refine wX fun _=>?_|((with_reducible refine wY ?_ ?_); rfl)|fail)
theorem qgK (hl:b.ports.length≤1000) (hh:b.heard.length=b.ports.length):ans Tryz.prog pol 128 [sbT c1 c2 c3 b t,.fn (.func 129) [sbT c1 c2 c3 b t] []]=some (.sl true 8 (((List.range b.ports.length).map (sentF b t)).map encH)):=by
 have hroom:64*b.ports.length≤roomB:=by rw [Nat.mul_comm]; exact q07 (by omega) (by omega)
 have hbig:b.ports.length≤9223372036854775807:=by omega
 refine q00 2000 1 il128_eq (Nat.le_of_ble_eq_true rfl) ?_
 (repeat' first|simp only [il128c,go_sem,hroom,hbig]|with_reducible refine wX fun _=>?_|((with_reducible refine wY ?_ ?_); rfl)|fail)
 refine q0D b.ports.length (step:=fun i (_:Unit)=>Ctl.go ()) (fin:=id)
  (St:=fun i _ e h=>(e 1=.t (.fn (.func 129) [sbT c1 c2 c3 b t] [])∧e 5=.ms 0 b.ports.length 0 b.ports.length 8 true∧e 13=.t (I (b.ports.length:Nat))∧e 14=.t (I (i:Nat)))∧∃ mr,mr≤b.ports.length∧h=[.row 8 (((fillL (sentF b t) zH b.ports.length i).map encH).map .t) mr])
  (Ex:=fun _ x e h=>e 5=.ms 0 b.ports.length 0 b.ports.length 8 true∧x=.exit 0∧∃ mr,mr≤b.ports.length∧h=[.row 8 ((((List.range b.ports.length).map (sentF b t)).map encH).map .t) mr]) (s:=()) (by omega) ?_ ?_ (by omega) ?_ ?_
 ·intro i _ e h Y R hi hlt hw ⟨hs,mr,hmr,hh'⟩ hk
  subst hh'
  simp only [q01] at hk
  have k1:=qgI c1 c2 c3 b t i hi hh
  have hset:=q0Q (f:=sentF b t) (z:=zH) hi rfl
  have hlen:=q0X (sentF b t) zH (Nat.le_of_lt hi)
  generalize hL:fillL (sentF b t) zH b.ports.length i=L at *
  obtain ⟨old,hold⟩:∃ w,L[i]? = some w:=⟨L[i]'(by omega),by simp⟩
  have hget:(List.map AV.t (List.map encH L))[i]? = some (.t (hdT old)):=q0c (enc:=encH) hold
  have hst':=map_set (enc:=encH) (l:=L) (i:=i) (x:=sentF b t i)
  rw [hset] at hst'
  simp only [encH] at hst'
  generalize hB:sentF b t i=v at *
  (repeat' first|simp only [il128l0_go,il128l0b,go_sem,hs,hlt,k1,hget,hlen,hmr,hi,hw,hst',q0Y]|with_reducible refine wX fun _=>?_|((with_reducible refine wY ?_ ?_); rfl)|fail)
  all_goals (refine hk _ _ ⟨?_,b.ports.length,Nat.le_refl _,?_⟩ <;> simp only [go_sem,hs,hw])
 ·intro _ e h Y R hlt ⟨hs,mr,hmr,hh'⟩ hk
  subst hh'
  (repeat' first|simp only [il128l0_go,il128l0b,go_sem,hs,hlt,q0Y]|with_reducible refine wX fun _=>?_|((with_reducible refine wY ?_ ?_); rfl)|fail)
  all_goals (refine hk _ _ _ ⟨?_,rfl,mr,hmr,?_⟩ <;> (try simp only [go_sem,hs]))
  all_goals simp only [q18,id]
 ·refine ⟨?_,0,by omega,?_⟩
  ·simp only [go_sem]
  ·rw [q17]; simp [encH,zH]
 ·intro x e h ⟨h1,h2,mr,hmr,h3⟩
  subst h2 h3
  have hll:((List.range b.ports.length).map (sentF b t)).length=b.ports.length:=by simp
  generalize (List.range b.ports.length).map (sentF b t)=L at *
  (repeat' first|simp only [il128c,go_sem,h1,hll,hmr]|with_reducible refine wX fun _=>?_|((with_reducible refine wY ?_ ?_); rfl)|fail)
theorem qgL (hb:okB b=true):ans Tryz.prog pol 41 [brT c1 c2 c3 b]=some (.tup [.sl true 1 (((List.range b.ports.length).map (roleF b (opF b).t)).map I),I 0]):=by
 have k1:=q66 c1 c2 c3 b hb
 have hl:=q0j hb
 simp only [okL] at hl
 generalize (opF b).t=t at *
 have k2:=qgJ c1 c2 c3 b t (by omega) (by omega)
 generalize (List.range b.ports.length).map (roleF b t)=L at *
 refine q00 1 1 il41_eq (Nat.le_of_ble_eq_true rfl) ?_
 (repeat' first|simp only [il41c,go_sem,k1,k2]|with_reducible refine wX fun _=>?_|((with_reducible refine wY ?_ ?_); rfl)|fail)
theorem qgM (hb:okB b=true):ans Tryz.prog pol 100 [brT c1 c2 c3 b]=some (.tup [.sl true 8 (((List.range b.ports.length).map (sentF b (opF b).t)).map encH),I 0]):=by
 have k1:=q66 c1 c2 c3 b hb
 have hl:=q0j hb
 simp only [okL] at hl
 generalize (opF b).t=t at *
 have k2:=qgK c1 c2 c3 b t (by omega) (by omega)
 generalize (List.range b.ports.length).map (sentF b t)=L at *
 refine q00 1 1 il100_eq (Nat.le_of_ble_eq_true rfl) ?_
 (repeat' first|simp only [il100c,go_sem,k1,k2]|with_reducible refine wX fun _=>?_|((with_reducible refine wY ?_ ?_); rfl)|fail)
end
end Go.Proofs.YtbibdnlbpjnieaaGreat
