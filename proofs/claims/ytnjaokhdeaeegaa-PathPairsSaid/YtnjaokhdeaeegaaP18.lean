/- Part 18 of the proof of PathPairs. -/
import Derived.Test.YtnjaokhdeaeegaaP17
set_option linter.all false
set_option maxRecDepth 100000
set_option maxHeartbeats 4000000
namespace Go.Proofs.Ytnjaokhdeaeegaa
open Go Go.Abs
def rN (r:List Nat):T:=if r=[] then nilT else rgT r
theorem qio:rN []=nilT:=rfl
theorem rN_ne {r:List Nat} (h:r≠[]):rN r=rgT r:=if_neg h
theorem q2L {r:List Nat} (h:r≠[]) {ox oy:Operand}:binE Try.prog false 31 ox oy (.t (.sl false 1 (ptL r))) (.t (.sc (.slice none 0 0)))=some (.t (B false)):=by
 cases r with
 | nil=>exact absurd rfl h
 | cons x r =>
  show binE Try.prog false 31 ox oy (.t (.sl false 1 (I ((x:Nat):Int)::ptL r))) (.t (.sc (.slice none 0 0)))=_
  rw [q5X,eqT31]; rfl
def bC (b:Nat→List Nat):List T:=(List.range 12).map fun n=>rN (b n)
theorem q1K (b:Nat→List Nat):(bC b).length=12:=by simp [bC]
theorem q42 (b:Nat→List Nat) {n:Nat} (hn:n < 12):((bC b).map AV.t)[n]? = some (.t (rN (b n))):=by
 rw [List.getElem?_map,bC,List.getElem?_map,List.getElem?_range hn]; rfl
theorem qip (b:Nat→List Nat) {m:Nat} (r:List Nat):((bC b).map AV.t).set m (.t (rN r))=(bC (setF b m r)).map AV.t:=by
 refine List.ext_getElem (by simp [bC]) fun i h1 h2=>?_
 simp only [List.getElem_set,List.getElem_map,bC,List.getElem_range,setF]
 by_cases e:m=i
 ·rw [if_pos e,if_pos e.symm]
 ·rw [if_neg e,if_neg (fun h=>e h.symm)]
theorem qiq:∀ l:List T,(∀ x∈l,storable (.t x)=true)→storableAll (l.map AV.t)=true:=by
 intro l
 induction l with
 | nil=>intro _; rfl
 | cons x l ih=>intro h; simp only [List.map_cons,storableAll,h x (by simp),ih (fun y hy=>h y (List.mem_cons_of_mem _ hy)),Bool.and_self]
theorem bC_ok (b:Nat→List Nat):storableAll ((bC b).map AV.t)=true:=by
 refine qiq _ fun x hx=>?_
 obtain ⟨n,_,rfl⟩:=List.mem_map.1 hx
 unfold rN
 split <;> rfl
def mkK (k:Nat) (V:List Nat):List Bool:=(List.range k).map fun n=>decide (n∈V)
theorem q0V (k:Nat) (V:List Nat):(mkK k V).length=k:=by simp [mkK]
theorem q75 {k:Nat} (V:List Nat) {n:Nat} (hn:n < k):((mkK k V).map B)[n]? = some (B (decide (n∈V))):=by
 rw [List.getElem?_map,mkK,List.getElem?_map,List.getElem?_range hn]; rfl
theorem q76 {k:Nat} {V:List Nat} {n:Nat}:(mkK k V).set n true=mkK k (V++[n]):=by
 refine List.ext_getElem (by simp [mkK]) fun i h1 h2=>?_
 simp only [mkK,List.getElem_set,List.getElem_map,List.getElem_range]
 by_cases e:n=i
 ·subst e; simp
 ·rw [if_neg e]
  have:i≠n:=fun h=>e h.symm
  simp [this]
def avA (t:Tpo) (frm:Nat) (V W:List Nat):Av:=⟨frm,stA t,fun n=>decide (n∈V),fun l=>decide (l∈W)⟩
def dpU (t:Tpo) (A:Av) (b s:Nat→List Nat) (p:Nat):Prop:=dpC (grT t) A b p∧(s (toN t p)=[]∨befB (grT t) (b (frN t p)++[p]) (s (toN t p))=true)
instance (t:Tpo) (A:Av) (b s:Nat→List Nat) (p:Nat):Decidable (dpU t A b s p):=inferInstanceAs (Decidable (_∧_))
def dpT (t:Tpo) (A:Av) (b:Nat→List Nat) (s:(Nat→List Nat) × Bool) (p:Nat):(Nat→List Nat) × Bool:=if dpU t A b s.1 p then (setF s.1 (toN t p) (b (frN t p)++[p]),true) else s
def okRB (t:Tpo) (L:Nat) (b:Nat→List Nat):Prop:=∀ n,ptP t (b n)∧(b n).length≤L
theorem qir {t:Tpo} {L:Nat} {s:Nat→List Nat} {m:Nat} {r:List Nat} (hs:okRB t L s) (hr:ptP t r∧r.length≤L):okRB t L (setF s m r):=by
 intro n
 unfold setF
 split
 ·exact hr
 ·exact hs n
theorem dpT_1 (t:Tpo) (A:Av) (b:Nat→List Nat) (s:(Nat→List Nat) × Bool) (p:Nat):(dpT t A b s p).1=dpS (grT t) A b s.1 p:=by
 unfold dpT dpS
 by_cases h:dpU t A b s.1 p
 ·rw [if_pos h]; exact (if_pos h).symm
 ·rw [if_neg h]; exact (if_neg h).symm
section
variable (c1 c2:Bool) (t:Tpo) (h:okT t=true)
include h
theorem qis (frm:Nat) (V W:List Nat) (b:Nat→List Nat) (L:Nat) (hL:L≤100) (hb:okRB t L b) (hb0:b frm=[]) (m0:Nat) (hm0:m0≤1) (x2 x20 x21:T)
  (J:Inl) (nn:Nat) (hnn:100 < nn) (m1:Nat) (hm1:m1≤1) (R:Xit→FEnv→Heap→Prop) (e:FEnv)
  (he:e 1=.t (I (frm:Nat))∧e 2=.t x2∧e 6=.t (.ip (srS c1 c2 t))∧e 9=.t (.ip ((mkK 12 V).map B))∧e 10=.t (.ip ((mkK 24 W).map B))∧e 13=.ref 0 1 0 0∧e 14=.ref 1 1 0 0∧e 15=.t (B false)∧e 20=.t x20∧e 21=.t x21∧e 25=.t (I ((2*t.links.length:Nat):Int))∧e 26=.t (I 0))
  (hR:∀ e m1',m1'≤1→(e 1=.t (I (frm:Nat))∧e 2=.t x2∧e 6=.t (.ip (srS c1 c2 t))∧e 9=.t (.ip ((mkK 12 V).map B))∧e 10=.t (.ip ((mkK 24 W).map B))∧e 13=.ref 0 1 0 0∧e 14=.ref 1 1 0 0∧e 15=.t (B ((List.range (2*t.links.length)).foldl (dpT t (avA t frm V W) b) (b,false)).2)∧e 20=.t x20∧e 21=.t x21) →
   R (.exit 2) e [.row 12 [.t (.agg (bC b))] m0,.row 12 [.t (.agg (bC ((List.range (2*t.links.length)).foldl (dpT t (avA t frm V W) b) (b,false)).1))] m1']) :
  wpIter 2 (some [1,2,6,9,10,13,14,15,20,21,25,26]) (wc Try.prog pol (ans Try.prog pol) J nn 35 il35l0) R nn e [.row 12 [.t (.agg (bC b))] m0,.row 12 [.t (.agg (bC b))] m1]:=by
 obtain ⟨z1,z2,z3⟩:=q0h h
 refine q0M (2*t.links.length) (step:=fun p s=>.go (dpT t (avA t frm V W) b s p)) (fin:=id)
  (St:=fun p s e h=>(e 1=.t (I (frm:Nat))∧e 2=.t x2∧e 6=.t (.ip (srS c1 c2 t))∧e 9=.t (.ip ((mkK 12 V).map B))∧e 10=.t (.ip ((mkK 24 W).map B))∧e 13=.ref 0 1 0 0∧e 14=.ref 1 1 0 0∧e 15=.t (B s.2)∧e 20=.t x20∧e 21=.t x21∧e 25=.t (I ((2*t.links.length:Nat):Int))∧e 26=.t (I (p:Nat)))∧okRB t (L+1) s.1∧∃ m1,m1≤1∧h=[.row 12 [.t (.agg (bC b))] m0,.row 12 [.t (.agg (bC s.1))] m1])
  (Ex:=fun s x e h=>(e 1=.t (I (frm:Nat))∧e 2=.t x2∧e 6=.t (.ip (srS c1 c2 t))∧e 9=.t (.ip ((mkK 12 V).map B))∧e 10=.t (.ip ((mkK 24 W).map B))∧e 13=.ref 0 1 0 0∧e 14=.ref 1 1 0 0∧e 15=.t (B s.2)∧e 20=.t x20∧e 21=.t x21)∧x=.exit 2∧∃ m1,m1≤1∧h=[.row 12 [.t (.agg (bC b))] m0,.row 12 [.t (.agg (bC s.1))] m1]) (s:=(b,false)) (by omega) ?_ ?_ (by omega) ⟨he,fun n=>⟨(hb n).1,Nat.le_succ_of_le (hb n).2⟩,m1,hm1,rfl⟩ ?_
 ·intro p s e h' Y R' hp hlt hw ⟨hs,hS,m1,hm1,hh⟩ hk
  obtain ⟨s,bt⟩:=s
  dsimp only at hs hS hh
  subst hh
  simp only [q07] at hk
  obtain ⟨p1,p2,n1,n2,n3⟩:=q0p h hp
  have gF:=q2D (c1:=c1) (c2:=c2) (t:=t) (G:=endsL t (toP t)) (q0Q (f:=frP t) z3 hp)
  have gT:=q1m (c1:=c1) (c2:=c2) (t:=t) (q09 t (frP t)) (q0Q (f:=toP t) z3 hp)
  rw [p1] at gF
  rw [p2] at gT
  have h48:p < 48:=by omega
  have f12:frN t p < 12:=by omega
  have t12:toN t p < 12:=by omega
  have h24:p / 2 < 24:=by omega
  have gL:=q75 W h24
  have gN:=q75 V f12
  have gB:=q42 b f12
  have gS:=q42 s t12
  have lB:=q1K b
  have lS:=q1K s
  have gst:(t.station.map B)[frN t p]? = some (B (stA t (frN t p))):=q1H t h n1
  have hst:frN t p < t.station.length:=by omega
  have v:=q0U hp (show t.links.length≤1000 by omega)
  have hmN:((mkK 12 V).map B).length=12:=by rw [List.length_map,q0V]
  have hmL:((mkK 24 W).map B).length=24:=by rw [List.length_map,q0V]
  obtain ⟨bp,bl⟩:=hb (frN t p)
  obtain ⟨sp,sl⟩:=hS (toN t p)
  have hsr:=q0x (c1:=c1) (c2:=c2) (t:=t) (F:=endsL t (frP t)) (G:=endsL t (toP t))
  have hl:=q0E (c1:=c1) (c2:=c2) (t:=t) (q09 t (frP t)) (q09 t (toP t))
  have htk:List.take 99 (srS c1 c2 t)=srS c1 c2 t:=List.take_of_length_le (by rw [hl]; exact Nat.le_refl _)
  have hrp:ptP t (b (frN t p)++[p]):=fun q hq=>(List.mem_append.1 hq).elim (bp q) (fun hq=>by rw [List.mem_singleton.1 hq]; exact hp)
  have hrl:(b (frN t p)++[p]).length≤L+1:=by rw [List.length_append,List.length_cons,List.length_nil]; omega
  have kc:=q6l c1 c2 false false t h (b (frN t p)++[p]) (s (toN t p)) hrp sp (by omega) (by omega)
  have dl:=@q0f t (b (frN t p)++[p]) (s (toN t p))
  have hnx:(b (frN t p)++[p])≠[]:=by simp
  have tk:=@tkdr ((bC s).map AV.t) (toN t p) (.t (rN (b (frN t p)++[p]))) (by rw [List.length_map,lS]; exact t12)
  have hset:=qip s (m:=toN t p) (b (frN t p)++[p])
  rw [rN_ne hnx] at tk hset
  have b12:toN t p+1≤12:=t12
  have lb:=q0e (b (frN t p))
  have ls:=q0e (s (toN t p))
  have tkr:List.take (b (frN t p)).length (ptL (b (frN t p)))=ptL (b (frN t p)):=List.take_of_length_le (by omega)
  have hrow:AObj.row 1 ((ptL (b (frN t p))).map AV.t++[AV.t (I ((p:Nat):Int))]) 0=rowG 1 I ((b (frN t p)++[p]).map ofN):=by simp [rowG,ptL,ofN]
  have hroom2:((b (frN t p)).length+1)*8≤roomB:=q0T (by omega) (by omega)
  have hrm0:8≤roomB:=by rw [q1l]; omega
  have is2:rowIs 1 ((b (frN t p)).length+1) (some (rowG 1 I ((b (frN t p)++[p]).map ofN))):=by have:=q11 (k:=1) (enc:=I) (l:=(b (frN t p)++[p]).map ofN); simpa using this
  have ees:rowEs (some (rowG 1 I ((b (frN t p)++[p]).map ofN)))=(ptL (b (frN t p)++[p])).map .t:=rfl
  have zR:∀ (o1 o2:AObj) (P:Nat→Bool),P 2=true→frz [o1,o2,rowG 1 I ((b (frN t p)++[p]).map ofN)] P (.ms 2 ((b (frN t p)).length+1) 0 ((b (frN t p)).length+1) 1 false)=some (.t (rgT (b (frN t p)++[p]))):=by
   intro o1 o2 P hP
   rw [q1Z (enc:=I) (l:=(b (frN t p)++[p]).map ofN) (mr:=0) hP rfl (Nat.zero_le _) (by simp)]
   rfl
  have hUd:dpU t (avA t frm V W) b s p↔((decide (p / 2∈W)=false∧toN t p≠frm)∧(frN t p=frm∨b (frN t p)≠[]∧stA t (frN t p)=false∧decide (frN t p∈V)=false))∧(s (toN t p)=[]∨befB (grT t) (b (frN t p)++[p]) (s (toN t p))=true):=Iff.rfl
  have hgo:¬ dpU t (avA t frm V W) b s p→dpT t (avA t frm V W) b (s,bt) p=(s,bt):=fun k=>if_neg k
  have hup:dpU t (avA t frm V W) b s p→dpT t (avA t frm V W) b (s,bt) p=(setF s (toN t p) (b (frN t p)++[p]),true):=fun k=>if_pos k
  have hS2:=qir (m:=toN t p) hS ⟨hrp,hrl⟩
  cases q1:decide (p / 2∈W) with
  | true =>
   rw [q1] at gL
   rw [hgo (fun k=>by rw [hUd] at k; rw [q1] at k; cases k.1.1.1)] at hk
   (repeat' first|simp only [il35l0_go,il35l0b,go_sem,hs,hlt,hw,gF,gT,h48,v,h24,gL,hmL,q0a,Nat.mul_one,List.drop_drop,List.length_map,q1]|with_reducible refine wX fun _=>?_|((with_reducible refine wY ?_ ?_); rfl)|fail)
   all_goals (refine hk _ _ ⟨?_,hS,m1,hm1,rfl⟩; simp only [go_sem,hs,hw])
  | false =>
   rw [q1] at gL
   by_cases q2:toN t p=frm
   ·have d2:decide (((toN t p:Nat):Int)=((frm:Nat):Int))=true:=decide_eq_true (by omega)
    rw [hgo (fun k=>by rw [hUd] at k; exact k.1.1.2 q2)] at hk
    (repeat' first|simp only [il35l0_go,il35l0b,go_sem,hs,hlt,hw,gF,gT,h48,v,h24,gL,hmL,q0a,Nat.mul_one,List.drop_drop,List.length_map,d2]|with_reducible refine wX fun _=>?_|((with_reducible refine wY ?_ ?_); rfl)|fail)
    all_goals (refine hk _ _ ⟨?_,hS,m1,hm1,rfl⟩; simp only [go_sem,hs,hw])
   ·have d2:decide (((toN t p:Nat):Int)=((frm:Nat):Int))=false:=decide_eq_false (by omega)
    by_cases q3:frN t p=frm
    ·have d3:decide (((frN t p:Nat):Int)=((frm:Nat):Int))=true:=decide_eq_true (by omega)
     have e0:b (frN t p)=[]:=by rw [q3]; exact hb0
     have hrow0:AObj.row 1 [AV.t (I ((p:Nat):Int))] 0=rowG 1 I ((b (frN t p)++[p]).map ofN):=by rw [e0]; rfl
     have gB:((bC b).map AV.t)[frN t p]? = some (.t nilT):=by rw [gB,e0]; rfl
     have is0:rowIs 1 1 (some (rowG 1 I ((b (frN t p)++[p]).map ofN))):=by rw [e0] at is2 ⊢; exact is2
     have zR0:∀ (o1 o2:AObj) (P:Nat→Bool),P 2=true→frz [o1,o2,rowG 1 I ((b (frN t p)++[p]).map ofN)] P (.ms 2 1 0 1 1 false)=some (.t (rgT (b (frN t p)++[p]))):=by
      intro o1 o2 P hP
      have:=zR o1 o2 P hP
      rw [show (b (frN t p)).length+1=1 by rw [e0]; rfl] at this
      exact this
     by_cases q7:s (toN t p)=[]
     ·have hs7:rN (s (toN t p))=nilT:=by rw [q7]; rfl
      rw [hs7] at gS
      rw [hup (hUd.2 ⟨⟨⟨q1,q2⟩,.inl q3⟩,.inl q7⟩)] at hk
      (repeat' first|simp only [il35l0_go,il35l0b,go_sem,hs,hlt,hw,gF,gT,h48,v,h24,gL,hmL,q0a,Nat.mul_one,List.drop_drop,List.length_map,d2,d3,f12,t12,gB,gS,lB,lS,gN,hmN,gst,hst,srC_1,hm0,hm1,hsr,hl,htk,q2J,hrm0,hrow0,is0,zR0,is2,q0H,q0I,ees,zR,nmG,hset,tk,b12]|with_reducible refine wX fun _=>?_|((with_reducible refine wY ?_ ?_); rfl)|fail)
      all_goals (refine hk _ _ ⟨?_,hS2,1,Nat.le_refl 1,rfl⟩; simp only [go_sem,hs,hw,zR])
     ·rw [rN_ne q7] at gS
      have bn7:=@q2L (s (toN t p)) q7
      cases q8:befB (grT t) (b (frN t p)++[p]) (s (toN t p)) with
      | true =>
       have dl:decide (cmpR t (b (frN t p)++[p]) (s (toN t p)) < 0)=true:=dl.trans q8
       rw [hup (hUd.2 ⟨⟨⟨q1,q2⟩,.inl q3⟩,.inr q8⟩)] at hk
       (repeat' first|simp only [il35l0_go,il35l0b,go_sem,hs,hlt,hw,gF,gT,h48,v,h24,gL,hmL,q0a,Nat.mul_one,List.drop_drop,List.length_map,d2,d3,f12,t12,gB,gS,lB,lS,gN,hmN,gst,hst,srC_1,hm0,hm1,hsr,hl,htk,q2J,hrm0,hrow0,is0,zR0,is2,q0H,q0I,ees,zR,nmG,hset,tk,b12,bn7,kc,dl,ls]|with_reducible refine wX fun _=>?_|((with_reducible refine wY ?_ ?_); rfl)|fail)
       all_goals (refine hk _ _ ⟨?_,hS2,1,Nat.le_refl 1,rfl⟩; simp only [go_sem,hs,hw,zR])
      | false =>
       have dl:decide (cmpR t (b (frN t p)++[p]) (s (toN t p)) < 0)=false:=dl.trans q8
       rw [hgo (fun k=>by rw [hUd] at k; rcases k.2 with k|k; exact q7 k; rw [q8] at k; cases k)] at hk
       (repeat' first|simp only [il35l0_go,il35l0b,go_sem,hs,hlt,hw,gF,gT,h48,v,h24,gL,hmL,q0a,Nat.mul_one,List.drop_drop,List.length_map,d2,d3,f12,t12,gB,gS,lB,lS,gN,hmN,gst,hst,srC_1,hm0,hm1,hsr,hl,htk,q2J,hrm0,hrow0,is0,zR0,is2,q0H,q0I,ees,zR,nmG,hset,tk,b12,bn7,kc,dl,ls]|with_reducible refine wX fun _=>?_|((with_reducible refine wY ?_ ?_); rfl)|fail)
       all_goals (refine hk _ _ ⟨?_,hS,m1,hm1,rfl⟩; simp only [go_sem,hs,hw,zR])
    ·have d3:decide (((frN t p:Nat):Int)=((frm:Nat):Int))=false:=decide_eq_false (by omega)
     by_cases q4:b (frN t p)=[]
     ·have gB:((bC b).map AV.t)[frN t p]? = some (.t nilT):=by rw [gB,q4]; rfl
      rw [hgo (fun k=>by rw [hUd] at k; rcases k.1.2 with k|k; exact q3 k; exact k.1 q4)] at hk
      (repeat' first|simp only [il35l0_go,il35l0b,go_sem,hs,hlt,hw,gF,gT,h48,v,h24,gL,hmL,q0a,Nat.mul_one,List.drop_drop,List.length_map,d2,d3,f12,gB,lB,hm0]|with_reducible refine wX fun _=>?_|((with_reducible refine wY ?_ ?_); rfl)|fail)
      all_goals (refine hk _ _ ⟨?_,hS,m1,hm1,rfl⟩; simp only [go_sem,hs,hw])
     ·rw [rN_ne q4] at gB
      have bn4:=@q2L (b (frN t p)) q4
      cases q5:stA t (frN t p) with
      | true =>
       rw [q5] at gst
       rw [hgo (fun k=>by rw [hUd] at k; rcases k.1.2 with k|k; exact q3 k; rw [q5] at k; cases k.2.1)] at hk
       (repeat' first|simp only [il35l0_go,il35l0b,go_sem,hs,hlt,hw,gF,gT,h48,v,h24,gL,hmL,q0a,Nat.mul_one,List.drop_drop,List.length_map,d2,d3,f12,gB,lB,hm0,bn4,gst,hst,srC_1]|with_reducible refine wX fun _=>?_|((with_reducible refine wY ?_ ?_); rfl)|fail)
       all_goals (refine hk _ _ ⟨?_,hS,m1,hm1,rfl⟩; simp only [go_sem,hs,hw])
      | false =>
       rw [q5] at gst
       cases q6:decide (frN t p∈V) with
       | true =>
        rw [q6] at gN
        rw [hgo (fun k=>by rw [hUd] at k; rcases k.1.2 with k|k; exact q3 k; rw [q6] at k; cases k.2.2)] at hk
        (repeat' first|simp only [il35l0_go,il35l0b,go_sem,hs,hlt,hw,gF,gT,h48,v,h24,gL,hmL,q0a,Nat.mul_one,List.drop_drop,List.length_map,d2,d3,f12,gB,lB,hm0,bn4,gst,hst,srC_1,gN,hmN]|with_reducible refine wX fun _=>?_|((with_reducible refine wY ?_ ?_); rfl)|fail)
        all_goals (refine hk _ _ ⟨?_,hS,m1,hm1,rfl⟩; simp only [go_sem,hs,hw])
       | false =>
        rw [q6] at gN
        by_cases q7:s (toN t p)=[]
        ·have hs7:rN (s (toN t p))=nilT:=by rw [q7]; rfl
         rw [hs7] at gS
         rw [hup (hUd.2 ⟨⟨⟨q1,q2⟩,.inr ⟨q4,q5,q6⟩⟩,.inl q7⟩)] at hk
         (repeat' first|simp only [il35l0_go,il35l0b,go_sem,hs,hlt,hw,gF,gT,h48,v,h24,gL,hmL,q0a,Nat.mul_one,List.drop_drop,List.length_map,d2,d3,bn4,f12,t12,gB,gS,lB,lS,gN,hmN,gst,hst,srC_1,hm0,hm1,hsr,hl,htk,lb,tkr,hroom2,hrow,is2,q0H,q0I,ees,zR,nmG,hset,tk,b12]|with_reducible refine wX fun _=>?_|((with_reducible refine wY ?_ ?_); rfl)|fail)
         all_goals (refine hk _ _ ⟨?_,hS2,1,Nat.le_refl 1,rfl⟩; simp only [go_sem,hs,hw,zR])
        ·rw [rN_ne q7] at gS
         have bn7:=@q2L (s (toN t p)) q7
         cases q8:befB (grT t) (b (frN t p)++[p]) (s (toN t p)) with
         | true =>
          have dl:decide (cmpR t (b (frN t p)++[p]) (s (toN t p)) < 0)=true:=dl.trans q8
          rw [hup (hUd.2 ⟨⟨⟨q1,q2⟩,.inr ⟨q4,q5,q6⟩⟩,.inr q8⟩)] at hk
          (repeat' first|simp only [il35l0_go,il35l0b,go_sem,hs,hlt,hw,gF,gT,h48,v,h24,gL,hmL,q0a,Nat.mul_one,List.drop_drop,List.length_map,d2,d3,bn4,f12,t12,gB,gS,lB,lS,gN,hmN,gst,hst,srC_1,hm0,hm1,hsr,hl,htk,lb,tkr,hroom2,hrow,is2,q0H,q0I,ees,zR,nmG,hset,tk,b12,bn7,kc,dl,ls]|with_reducible refine wX fun _=>?_|((with_reducible refine wY ?_ ?_); rfl)|fail)
          all_goals (refine hk _ _ ⟨?_,hS2,1,Nat.le_refl 1,rfl⟩; simp only [go_sem,hs,hw,zR])
         | false =>
          have dl:decide (cmpR t (b (frN t p)++[p]) (s (toN t p)) < 0)=false:=dl.trans q8
          rw [hgo (fun k=>by rw [hUd] at k; rcases k.2 with k|k; exact q7 k; rw [q8] at k; cases k)] at hk
          (repeat' first|simp only [il35l0_go,il35l0b,go_sem,hs,hlt,hw,gF,gT,h48,v,h24,gL,hmL,q0a,Nat.mul_one,List.drop_drop,List.length_map,d2,d3,bn4,f12,t12,gB,gS,lB,lS,gN,hmN,gst,hst,srC_1,hm0,hm1,hsr,hl,htk,lb,tkr,hroom2,hrow,is2,q0H,q0I,ees,zR,nmG,hset,tk,b12,bn7,kc,dl,ls]|with_reducible refine wX fun _=>?_|((with_reducible refine wY ?_ ?_); rfl)|fail)
          all_goals (refine hk _ _ ⟨?_,hS,m1,hm1,rfl⟩; simp only [go_sem,hs,hw,zR])
 ·intro s e h' Y R' hlt ⟨hs,hS,m1,hm1,hh⟩ hk
  subst hh
  (repeat' first|simp only [il35l0_go,il35l0b,go_sem,hs,hlt]|with_reducible refine wX fun _=>?_|((with_reducible refine wY ?_ ?_); rfl)|fail)
  all_goals (refine hk _ _ _ ⟨?_,rfl,m1,hm1,rfl⟩; simp only [go_sem,hs,id])
 ·intro x e h' ⟨h1,h2,m1,hm1,h3⟩
  subst h2 h3
  have hfo:∀ (k i:Nat) (s:(Nat→List Nat) × Bool),foldC (ρ:=(Nat→List Nat) × Bool) (fun p (_:Unit) s=>Ctl.go (dpT t (avA t frm V W) b s p)) id i (List.replicate k ()) s=(List.range' i k).foldl (dpT t (avA t frm V W) b) s:=by
   intro k
   induction k with
   | zero=>intro i s; rfl
   | succ k ih=>intro i s; rw [List.replicate_succ,q0l (s':=dpT t (avA t frm V W) b s i) rfl,ih,List.range'_succ]; rfl
  rw [hfo,← List.range_eq_range'] at *
  exact hR _ m1 hm1 h1
end
end Go.Proofs.Ytnjaokhdeaeegaa
namespace Go.Proofs.Ytnjaokhdeaeegaa
open Go Go.Abs
theorem q77 (t:Tpo) (A:Av) (b:Nat→List Nat):∀ (l:List Nat) (s:(Nat→List Nat) × Bool),(l.foldl (dpT t A b) s).1=l.foldl (dpS (grT t) A b) s.1∧((l.foldl (dpT t A b) s).2=false→(l.foldl (dpT t A b) s).1=s.1∧s.2=false):=by
 intro l
 induction l with
 | nil=>intro s; exact ⟨rfl,fun h=>⟨rfl,h⟩⟩
 | cons p l ih =>
  intro s
  rw [List.foldl_cons,List.foldl_cons]
  obtain ⟨i1,i2⟩:=ih (dpT t A b s p)
  refine ⟨by rw [i1,dpT_1],fun h=>?_⟩
  obtain ⟨j1,j2⟩:=i2 h
  by_cases hu:dpU t A b s.1 p
  ·rw [dpT,if_pos hu] at j2; cases j2
  ·rw [dpT,if_neg hu] at j1 j2; exact ⟨by rw [dpT,if_neg hu]; exact j1,j2⟩
def betB (t:Tpo) (A:Av) (s:Nat→List Nat):Bool:=((List.range (2*t.links.length)).foldl (dpT t A s) (s,false)).2
theorem q78 (t:Tpo) (A:Av) (s:Nat→List Nat):((List.range (2*t.links.length)).foldl (dpT t A s) (s,false)).1=dpR (grT t) A s:=(q77 t A s _ _).1
theorem qit {t:Tpo} {A:Av} {s:Nat→List Nat} (h:betB t A s=false):dpR (grT t) A s=s:=by
 rw [← q78]
 exact ((q77 t A s _ _).2 h).1
theorem qiu {α:Type} {f:α→α} {x:α} (h:f x=x):∀ k,iter f k x=x:=by
 intro k
 induction k with
 | zero=>rfl
 | succ k ih=>rw [iter,ih,h]
theorem qiv (t:Tpo) (A:Av):∀ (k i:Nat) (s:Nat→List Nat),foldC (fun _ (_:Unit) s=>if betB t A s=true then Ctl.go (dpR (grT t) A s) else Ctl.out s) id i (List.replicate k ()) s=iter (dpR (grT t) A) k s:=by
 intro k
 induction k with
 | zero=>intro i s; rfl
 | succ k ih =>
  intro i s
  rw [List.replicate_succ]
  cases hb:betB t A s with
  | true =>
   rw [q0l (s':=dpR (grT t) A s) (by simp [hb]),ih]
   have:∀ k s,iter (dpR (grT t) A) k (dpR (grT t) A s)=iter (dpR (grT t) A) (k+1) s:=by
    intro k
    induction k with
    | zero=>intro s; rfl
    | succ k ih=>intro s; rw [iter,ih]; rfl
   exact this k s
  | false =>
   rw [q0D (r:=s) (by simp [hb]),qiu (qit hb)]
section
variable (c1 c2:Bool) (t:Tpo) (h:okT t=true)
include h
theorem qiw (frm:Nat) (V W:List Nat) (k:Nat):okRB t k (dp (grT t) (avA t frm V W) k)∧dp (grT t) (avA t frm V W) k frm=[]:=by
 obtain ⟨b1,b2,_⟩:=q5x (G:=grT t) (A:=avA t frm V W) (gr_w h) k
 refine ⟨fun n=>?_,b1⟩
 rcases Classical.em (dp (grT t) (avA t frm V W) k n=[]) with e|e
 ·rw [e]; exact ⟨(fun p hp=>by cases hp),Nat.zero_le _⟩
 ·obtain ⟨w,l⟩:=b2 n e
  exact ⟨fun p hp=>((wk_fr w).2 p hp).1,l⟩
theorem qix (frm tgt:Nat) (hf:frm < t.nodes.toNat) (ht:tgt < t.nodes.toNat) (V W:List Nat) (most:Nat) (hm:most≤8) :
  ans Try.prog pol 35 [srT c1 c2 t,I (frm:Nat),I (tgt:Nat),.agg ((mkK 12 V).map B),.agg ((mkK 24 W).map B),I (most:Nat)]=some (rN (dp (grT t) (avA t frm V W) most tgt)):=by
 obtain ⟨z1,z2,z3⟩:=q0h h
 have hsr:=q0x (c1:=c1) (c2:=c2) (t:=t) (F:=endsL t (frP t)) (G:=endsL t (toP t))
 have hl:=q0E (c1:=c1) (c2:=c2) (t:=t) (q09 t (frP t)) (q09 t (toP t))
 have htk:List.take 99 (srS c1 c2 t)=srS c1 c2 t:=List.take_of_length_le (by rw [hl]; exact Nat.le_refl _)
 have kP:=q1E c1 c2 t (endsL t (frP t)) (endsL t (toP t)) h
 have sV:storableAll (((mkK 12 V).map B).map AV.t)=true:=q22 _
 have sW:storableAll (((mkK 24 W).map B).map AV.t)=true:=q22 _
 have hmN:((mkK 12 V).map B).length=12:=by rw [List.length_map,q0V]
 have hmL:((mkK 24 W).map B).length=24:=by rw [List.length_map,q0V]
 have hz:zR12=bC (fun _=>[]):=rfl
 have lC:=fun b=>q1K b
 have oC:=fun b=>bC_ok b
 have tC:∀ b,List.take 12 (bC b)=bC b:=fun b=>List.take_of_length_le (by rw [q1K]; exact Nat.le_refl _)
 have tM:∀ b,List.take 12 ((bC b).map AV.t)=(bC b).map AV.t:=fun b=>List.take_of_length_le (by rw [List.length_map,q1K]; exact Nat.le_refl _)
 have dM:∀ b,List.drop 12 ((bC b).map AV.t)=[]:=fun b=>List.drop_eq_nil_of_le (by rw [List.length_map,q1K]; exact Nat.le_refl _)
 have t12:tgt < 12:=by omega
 obtain ⟨nn,hn⟩:∃ nn,1000 < nn:=⟨1001,by omega⟩
 refine q02 nn 1 il35_eq (Nat.le_of_ble_eq_true rfl) ?_
 (repeat' first|simp only [il35c,go_sem,hsr,sV,sW,hz,lC,oC]|with_reducible refine wX fun _=>?_|((with_reducible refine wY ?_ ?_); rfl)|fail)
 refine q0M most (step:=fun _ s=>if betB t (avA t frm V W) s=true then Ctl.go (dpR (grT t) (avA t frm V W) s) else Ctl.out s) (fin:=id)
  (St:=fun i s e h=>(e 1=.t (I (frm:Nat))∧e 2=.t (I (tgt:Nat))∧e 6=.t (.ip (srS c1 c2 t))∧e 9=.t (.ip ((mkK 12 V).map B))∧e 10=.t (.ip ((mkK 24 W).map B))∧e 13=.ref 0 1 0 0∧e 20=.t (I (most:Nat))∧e 21=.t (I (i:Nat)))∧s=dp (grT t) (avA t frm V W) i∧∃ m0,m0≤1∧h=[.row 12 [.t (.agg (bC s))] m0])
  (Ex:=fun s x e h=>x=.exit 0∧(e 2=.t (I (tgt:Nat))∧e 13=.ref 0 1 0 0)∧∃ m0 Y,m0≤1∧h=.row 12 [.t (.agg (bC s))] m0::Y) (s:=fun _=>[]) (by omega) ?_ ?_ (by omega) ?_ ?_
 ·intro i s e h' Y R hi hlt hw ⟨hs,hds,m0,hm0,hh⟩ hk
  subst hh
  obtain ⟨ob,ob0⟩:=qiw t h frm V W i
  rw [← hds] at ob ob0
  have hds2:dpR (grT t) (avA t frm V W) s=dp (grT t) (avA t frm V W) (i+1):=by rw [hds]; rfl
  (repeat' first|simp only [il35l1_go,il35l1b,go_sem,hs,hlt,hm0,hl,hsr,htk,kP,hz,lC,oC,tC,tM,dM]|with_reducible refine wX fun _=>?_|((with_reducible refine wY ?_ ?_); rfl)|fail)
  refine qis c1 c2 t h frm V W s i (by omega) ob ob0 m0 hm0 (I (tgt:Nat)) (I (most:Nat)) (I (i:Nat)) _ nn (by omega) 1 (Nat.le_refl 1) _ _ (by simp only [go_sem,hs]) ?_
  intro e1 m1 hm1 he1
  have hbt:((List.range (2*t.links.length)).foldl (dpT t (avA t frm V W) s) (s,false)).2=betB t (avA t frm V W) s:=rfl
  rw [q78]
  rw [hbt] at he1
  cases hb:betB t (avA t frm V W) s with
  | true =>
   rw [hb] at he1
   simp only [hb,if_true,q07] at hk
   (repeat' first|simp only [il35l1_go,il35l1b,go_sem,he1,hw,hm0,hm1,lC,oC,tC,tM,dM]|with_reducible refine wX fun _=>?_|((with_reducible refine wY ?_ ?_); rfl)|fail)
   all_goals (refine hk _ _ ⟨?_,hds2,1,Nat.le_refl 1,rfl⟩; simp only [go_sem,he1,hw])
  | false =>
   rw [hb] at he1
   simp only [hb,Bool.false_eq_true,if_false,q0b] at hk
   (repeat' first|simp only [il35l1_go,il35l1b,go_sem,he1,hw,hm0,hm1]|with_reducible refine wX fun _=>?_|((with_reducible refine wY ?_ ?_); rfl)|fail)
   all_goals (refine hk _ _ _ ⟨rfl,?_,m0,_,hm0,rfl⟩; simp only [go_sem,he1])
 ·intro s e h' Y R hlt ⟨hs,hds,m0,hm0,hh⟩ hk
  subst hh
  (repeat' first|simp only [il35l1_go,il35l1b,go_sem,hs,hlt]|with_reducible refine wX fun _=>?_|((with_reducible refine wY ?_ ?_); rfl)|fail)
  all_goals (refine hk _ _ _ ⟨rfl,?_,m0,[],hm0,rfl⟩; simp only [go_sem,hs])
 ·refine ⟨?_,rfl,0,Nat.zero_le _,rfl⟩
  simp only [go_sem]
 ·intro x e h' ⟨h1,h2,m0,Y,hm0,h3⟩
  subst h1
  rw [qiv] at h3
  have hdp:iter (dpR (grT t) (avA t frm V W)) most (fun _=>[])=dp (grT t) (avA t frm V W) most:=rfl
  rw [hdp] at h3
  subst h3
  have gT:=q42 (dp (grT t) (avA t frm V W) most) t12
  (repeat' first|simp only [il35c,go_sem,h2,t12,hm0,lC,gT,Nat.mul_one,q0a]|with_reducible refine wX fun _=>?_|((with_reducible refine wY ?_ ?_); rfl)|fail)
end
end Go.Proofs.Ytnjaokhdeaeegaa
namespace Go.Proofs.Ytnjaokhdeaeegaa
open Go Go.Abs
def SlQ (X:T) (N:List Int):Prop:=(∃ c,X=.sl c 1 (N.map I))∨(X=nilT∧N=[])
theorem qiy {c:Bool} {N:List Int}:SlQ (.sl c 1 (N.map I)) N:=.inl ⟨c,rfl⟩
theorem q43:SlQ nilT []:=.inr ⟨rfl,rfl⟩
section
variable {X:T} {N:List Int} (h:SlQ X N)
include h
theorem SlQ.len:iLen (.t X)=some (.t (I (N.length:Nat))):=by
 rcases h with ⟨c,rfl⟩|⟨rfl,rfl⟩
 ·rw [q5F,List.length_map]
 ·rfl
theorem SlQ.get {i:Nat} {n:Int} (hn:N[i]? = some n):iIdxS 1 (.t X) i=some (.t (.ip [I n])):=by
 rcases h with ⟨c,rfl⟩|⟨rfl,rfl⟩
 ·rw [ix_sl,List.getElem?_map,hn]; rfl
 ·simp at hn
theorem SlQ.sto:storable (.t X)=true:=by
 rcases h with ⟨c,rfl⟩|⟨rfl,rfl⟩ <;> rfl
end
def inR (k:Int) (N:List Int):Bool:=N.all fun n=>decide (0≤n∧n < k)
def avC (k:Int) (_:Nat) (n:Int) (V:List Nat):Ctl (List Nat) (Option (List Nat)):=if n < 0∨k≤n then .out none else .go (V++[n.toNat])
theorem q79 (k:Int):∀ (N:List Int) (i:Nat) (V:List Nat),foldC (avC k) some i N V=if inR k N=true then some (V++N.map Int.toNat) else none:=by
 intro N
 induction N with
 | nil=>intro i V; simp [foldC,inR]
 | cons n N ih =>
  intro i V
  by_cases hn:n < 0∨k≤n
  ·rw [q0D (r:=none) (by rw [avC,if_pos hn])]
   have:inR k (n::N)=false:=by
    simp only [inR,List.all_cons,Bool.and_eq_false_iff,decide_eq_false_iff_not]
    left; omega
   rw [this]; rfl
  ·rw [q0l (s':=V++[n.toNat]) (by rw [avC,if_neg hn]),ih]
   have:inR k (n::N)=inR k N:=by
    have:decide (0≤n∧n < k)=true:=decide_eq_true (by omega)
    simp only [inR,List.all_cons,this,Bool.true_and]
   rw [this]; simp
def lsA (t:Tpo) (a b:Nat) (N L:List Int) (most:Int):T :=
 if inR t.nodes N=true∧inR (t.links.length:Nat) L=true∧1≤most∧most≤8 then
  (if dp (grT t) (avA t a (N.map Int.toNat) (L.map Int.toNat)) most.toNat b=[] then .tup [nilT,I 4] else .tup [rgT (dp (grT t) (avA t a (N.map Int.toNat) (L.map Int.toNat)) most.toNat b),I 0])
 else .tup [nilT,I 2]
theorem q7a {c1 c2:Bool} {t:Tpo} {F G:List Int}:(List.drop 2 ((srC c1 c2 t F G).map AV.t)).head? = some (.t (.sl c2 4 (t.links.map encK))):=rfl
section
variable (c1 c2:Bool) (t:Tpo) (h:okT t=true)
include h
theorem q7b (a b:Nat) (he:endP t (a:Nat) (b:Nat)) {X1 X2:T} {N L:List Int} (hX1:SlQ X1 N) (hX2:SlQ X2 L) (hN:N.length≤1000) (hL:L.length≤1000) (most:Int):ans Try.prog pol 12 [tpT c1 c2 t,I (a:Nat),I (b:Nat),.agg [X1,X2],I most]=some (lsA t a b N L most):=by
 have o1:=hX1.sto
 have o2:=hX2.sto
 have x1:=hX1.len
 have x2:=hX2.len
 obtain ⟨z1,z2,z3⟩:=q0h h
 have hab:=he
 obtain ⟨⟨a1,a2⟩,⟨b1,b2⟩,hne⟩:=hab
 have k1:=q3L c1 c2 t a b h he
 have hl:=q0E (c1:=c1) (c2:=c2) (t:=t) (q09 t (frP t)) (q09 t (toP t))
 have ht:=q1F hl
 have htk:List.take 99 (srS c1 c2 t)=srS c1 c2 t:=List.take_of_length_le (by rw [hl]; exact Nat.le_refl _)
 have hs:=q0x (c1:=c1) (c2:=c2) (t:=t) (F:=endsL t (frP t)) (G:=endsL t (toP t))
 have hdr:List.drop 99 (zS99.map AV.t)=[]:=rfl
 have zB:zB12=(mkK 12 []).map B:=rfl
 have zB2:zB24=(mkK 24 []).map B:=rfl
 have sM:=fun k V=>q22 (mkK k V)
 have lM:=fun k V=>q0V k V
 have tk:=fun (k:Nat) (V:List Nat) (n:Nat) (hn:n < k)=>@tkdr (((mkK k V).map B).map AV.t) n (.t (B true)) (by simp [q0V]; omega)
 have hset:=fun (k:Nat) (V:List Nat) (n:Nat)=>map_set (enc:=B) (l:=mkK k V) (i:=n) (x:=true)
 have hmt:=fun (k:Nat) (V:List Nat) (n:Nat)=>@q76 k V n
 have kL:=fun V W (hm:most≤8) (h1:1≤most)=>qix c1 c2 t h a b (by omega) (by omega) V W most.toNat (by omega)
 obtain ⟨nn,hnn⟩:∃ nn,2000 < nn:=⟨2001,by omega⟩
 refine q02 nn 1 il12_eq (Nat.le_of_ble_eq_true rfl) ?_
 (repeat' first|simp only [il12c,go_sem,k1,q0u,q0y,hdr,hl,ht,hs,q0O,zB,sM,lM,List.length_map,o1,o2,x1]|with_reducible refine wX fun _=>?_|((with_reducible refine wY ?_ ?_); rfl)|fail)
 refine q0j N I (step:=avC t.nodes) (fin:=some)
  (St:=fun i V e h=>(e 1=.t (I (a:Nat))∧e 2=.t (I (b:Nat))∧e 4=.t (I most)∧e 8=.t (.ip [X1,X2])∧e 12=.ref 0 1 0 0∧e 14=.ref 1 1 0 0∧e 32=.t X1∧e 33=.t (I (N.length:Nat))∧e 34=.t (I (i:Nat)))∧∃ m,m≤1∧h=[.row 99 [.t (.agg (srS c1 c2 t))] 1,.row 12 [.t (.agg ((mkK 12 V).map B))] m])
  (Ex:=fun s x e h=>(x=.ret∧s=none∧e 10=.t nilT∧e 11=.t (I 2))∨(x=.exit 0∧∃ V m,s=some V∧m≤1∧h=[.row 99 [.t (.agg (srS c1 c2 t))] 1,.row 12 [.t (.agg ((mkK 12 V).map B))] m]∧(e 1=.t (I (a:Nat))∧e 2=.t (I (b:Nat))∧e 4=.t (I most)∧e 8=.t (.ip [X1,X2])∧e 12=.ref 0 1 0 0∧e 14=.ref 1 1 0 0))) (s:=[]) (by omega) ?_ ?_ (by omega) ?_ ?_
 ·intro i n V e h' Y R hm hi hx hget hlt hw ⟨hs',m,hm',hh⟩ hk
  subst hh
  have hgx:=hX1.get hx
  unfold avC at hk
  by_cases hn:n < 0∨t.nodes≤n
  ·rw [if_pos hn,q0b] at hk
   by_cases q1:n < 0
   ·have e1:=decide_eq_true q1
    (repeat' first|simp only [il12l0_go,il12l0b,go_sem,hs',hlt,hgx,hi,e1,List.length_map]|with_reducible refine wX fun _=>?_|((with_reducible refine wY ?_ ?_); rfl)|fail)
    all_goals (refine hk _ _ _ (.inl ⟨rfl,rfl,?_,?_⟩) <;> simp only [go_sem])
   ·have e1:=decide_eq_false q1
    have e2:decide (t.nodes≤n)=true:=decide_eq_true (by omega)
    (repeat' first|simp only [il12l0_go,il12l0b,go_sem,hs',hlt,hgx,hi,e1,e2,List.length_map,q0O,q3I]|with_reducible refine wX fun _=>?_|((with_reducible refine wY ?_ ?_); rfl)|fail)
    all_goals (refine hk _ _ _ (.inl ⟨rfl,rfl,?_,?_⟩) <;> simp only [go_sem])
  ·rw [if_neg hn,q07] at hk
   have e1:decide (n < 0)=false:=decide_eq_false (by omega)
   have e2:decide (t.nodes≤n)=false:=decide_eq_false (by omega)
   obtain ⟨x,rfl⟩:∃ x:Nat,n=x:=⟨n.toNat,by omega⟩
   have x12:x < 12:=by omega
   have xb:x+1≤12:=by omega
   have tkx:=tk 12 V x x12
   rw [Int.toNat_natCast] at hk
   (repeat' first|simp only [il12l0_go,il12l0b,go_sem,hs',hlt,hw,hgx,hi,e1,e2,List.length_map,q0O,q3I,x12,xb,hm',tkx,hset,hmt,lM,Nat.mul_one]|with_reducible refine wX fun _=>?_|((with_reducible refine wY ?_ ?_); rfl)|fail)
   all_goals (refine hk _ _ ⟨?_,1,Nat.le_refl 1,rfl⟩; simp only [go_sem,hs',hw])
 ·intro V e h' Y R hlt ⟨hs',m,hm',hh⟩ hk
  subst hh
  (repeat' first|simp only [il12l0_go,il12l0b,go_sem,hs',hlt]|with_reducible refine wX fun _=>?_|((with_reducible refine wY ?_ ?_); rfl)|fail)
  all_goals (refine hk _ _ _ (.inr ⟨rfl,V,m,rfl,hm',rfl,?_⟩); simp only [go_sem,hs'])
 ·refine ⟨?_,0,Nat.zero_le _,rfl⟩
  simp only [go_sem,List.length_map]
 ·intro x e h' hx
  rw [q79,List.nil_append] at hx
  rcases hx with ⟨rfl,hx,h10,h11⟩|⟨rfl,V,m,hx,hm',hh,he1⟩
  ·cases hi:inR t.nodes N with
   | true=>rw [hi,if_pos rfl] at hx; cases hx
   | false =>
    have hA:lsA t a b N L most=.tup [nilT,I 2]:=if_neg (fun k=>by rw [hi] at k; cases k.1)
    rw [hA]
    (repeat' first|simp only [il12c,go_sem,h10,h11]|with_reducible refine wX fun _=>?_|((with_reducible refine wY ?_ ?_); rfl)|fail)
  ·cases hi:inR t.nodes N with
   | false=>rw [hi,if_neg (by simp)] at hx; cases hx
   | true =>
    rw [hi,if_pos rfl,Option.some.injEq] at hx
    subst hx
    subst hh
    (repeat' first|simp only [il12c,go_sem,he1,zB2,sM,lM,List.length_map,x2]|with_reducible refine wX fun _=>?_|((with_reducible refine wY ?_ ?_); rfl)|fail)
    obtain ⟨V,hV⟩:∃ V,V=N.map Int.toNat:=⟨_,rfl⟩
    rw [← hV]
    refine q0j L I (step:=avC (t.links.length:Nat)) (fin:=some)
     (St:=fun i W e h=>(e 1=.t (I (a:Nat))∧e 2=.t (I (b:Nat))∧e 4=.t (I most)∧e 12=.ref 0 1 0 0∧e 14=.ref 1 1 0 0∧e 17=.ref 2 1 0 0∧e 51=.t X2∧e 52=.t (I (L.length:Nat))∧e 53=.t (I (i:Nat)))∧∃ m2,m2≤1∧h=[.row 99 [.t (.agg (srS c1 c2 t))] 1,.row 12 [.t (.agg ((mkK 12 V).map B))] m,.row 24 [.t (.agg ((mkK 24 W).map B))] m2])
     (Ex:=fun s x e h=>(x=.ret∧s=none∧e 10=.t nilT∧e 11=.t (I 2))∨(x=.exit 2∧∃ W m2,s=some W∧m2≤1∧h=[.row 99 [.t (.agg (srS c1 c2 t))] 1,.row 12 [.t (.agg ((mkK 12 V).map B))] m,.row 24 [.t (.agg ((mkK 24 W).map B))] m2]∧(e 1=.t (I (a:Nat))∧e 2=.t (I (b:Nat))∧e 4=.t (I most)∧e 12=.ref 0 1 0 0∧e 14=.ref 1 1 0 0∧e 17=.ref 2 1 0 0))) (s:=[]) (by omega) ?_ ?_ (by omega) ?_ ?_
    ·intro i n W e h' Y R hmn hi2 hx hget hlt hw ⟨hs',m2,hm2,hh⟩ hk
     subst hh
     have hgx:=hX2.get hx
     unfold avC at hk
     by_cases hn:n < 0∨((t.links.length:Nat):Int)≤n
     ·rw [if_pos hn,q0b] at hk
      by_cases q1:n < 0
      ·have e1:=decide_eq_true q1
       (repeat' first|simp only [il12l1_go,il12l1b,go_sem,hs',hlt,hgx,hi2,e1,List.length_map]|with_reducible refine wX fun _=>?_|((with_reducible refine wY ?_ ?_); rfl)|fail)
       all_goals (refine hk _ _ _ (.inl ⟨rfl,rfl,?_,?_⟩) <;> simp only [go_sem])
      ·have e1:=decide_eq_false q1
       have e2:decide (((t.links.length:Nat):Int)≤n)=true:=decide_eq_true (by omega)
       (repeat' first|simp only [il12l1_go,il12l1b,go_sem,hs',hlt,hgx,hi2,e1,e2,List.length_map,q7a]|with_reducible refine wX fun _=>?_|((with_reducible refine wY ?_ ?_); rfl)|fail)
       all_goals (refine hk _ _ _ (.inl ⟨rfl,rfl,?_,?_⟩) <;> simp only [go_sem])
     ·rw [if_neg hn,q07] at hk
      have e1:decide (n < 0)=false:=decide_eq_false (by omega)
      have e2:decide (((t.links.length:Nat):Int)≤n)=false:=decide_eq_false (by omega)
      obtain ⟨x,rfl⟩:∃ x:Nat,n=x:=⟨n.toNat,by omega⟩
      have x12:x < 24:=by omega
      have xb:x+1≤24:=by omega
      have tkx:=tk 24 W x x12
      rw [Int.toNat_natCast] at hk
      (repeat' first|simp only [il12l1_go,il12l1b,go_sem,hs',hlt,hw,hgx,hi2,e1,e2,List.length_map,q7a,x12,xb,hm2,tkx,hset,hmt,lM,Nat.mul_one]|with_reducible refine wX fun _=>?_|((with_reducible refine wY ?_ ?_); rfl)|fail)
      all_goals (refine hk _ _ ⟨?_,1,Nat.le_refl 1,rfl⟩; simp only [go_sem,hs',hw])
    ·intro W e h' Y R hlt ⟨hs',m2,hm2,hh⟩ hk
     subst hh
     (repeat' first|simp only [il12l1_go,il12l1b,go_sem,hs',hlt]|with_reducible refine wX fun _=>?_|((with_reducible refine wY ?_ ?_); rfl)|fail)
     all_goals (refine hk _ _ _ (.inr ⟨rfl,W,m2,rfl,hm2,rfl,?_⟩); simp only [go_sem,hs'])
    ·refine ⟨?_,0,Nat.zero_le _,rfl⟩
     simp only [go_sem,he1,List.length_map]
    ·intro x e h' hx
     rw [q79,List.nil_append] at hx
     rcases hx with ⟨rfl,hx,h10,h11⟩|⟨rfl,W,m2,hx,hm2,hh,he2⟩
     ·cases hj:inR (t.links.length:Nat) L with
      | true=>rw [hj,if_pos rfl] at hx; cases hx
      | false =>
       have hA:lsA t a b N L most=.tup [nilT,I 2]:=if_neg (fun k=>by rw [hj] at k; cases k.2.1)
       rw [hA]
       (repeat' first|simp only [il12c,go_sem,h10,h11]|with_reducible refine wX fun _=>?_|((with_reducible refine wY ?_ ?_); rfl)|fail)
     ·cases hj:inR (t.links.length:Nat) L with
      | false=>rw [hj,if_neg (by simp)] at hx; cases hx
      | true =>
       rw [hj,if_pos rfl,Option.some.injEq] at hx
       subst hx
       subst hh
       obtain ⟨W,hW⟩:∃ W,W=L.map Int.toNat:=⟨_,rfl⟩
       rw [← hW]
       by_cases q1:most < 1
       ·have e1:=decide_eq_true q1
        have hA:lsA t a b N L most=.tup [nilT,I 2]:=if_neg (fun k=>by have:=k.2.2.1; omega)
        rw [hA]
        (repeat' first|simp only [il12c,go_sem,he2,e1]|with_reducible refine wX fun _=>?_|((with_reducible refine wY ?_ ?_); rfl)|fail)
       ·have e1:=decide_eq_false q1
        by_cases q2:8 < most
        ·have e2:=decide_eq_true q2
         have hA:lsA t a b N L most=.tup [nilT,I 2]:=if_neg (fun k=>by have:=k.2.2.2; omega)
         rw [hA]
         (repeat' first|simp only [il12c,go_sem,he2,e1,e2]|with_reducible refine wX fun _=>?_|((with_reducible refine wY ?_ ?_); rfl)|fail)
        ·have e2:=decide_eq_false q2
         have kl:=kL V W (by omega) (by omega)
         have hmm:((most.toNat:Nat):Int)=most:=by omega
         rw [hmm] at kl
         have hA:lsA t a b N L most=if dp (grT t) (avA t a V W) most.toNat b=[] then .tup [nilT,I 4] else .tup [rgT (dp (grT t) (avA t a V W) most.toNat b),I 0]:=by
          rw [hV,hW]
          exact if_pos ⟨hi,hj,by omega,by omega⟩
         rw [hA]
         have tM:=fun k V=>(List.take_of_length_le (by rw [List.length_map,List.length_map,q0V]; exact Nat.le_refl _):List.take k (((mkK k V).map B).map AV.t)=((mkK k V).map B).map AV.t)
         have tN:=fun k V=>(List.take_of_length_le (by rw [List.length_map,q0V]; exact Nat.le_refl _):List.take k ((mkK k V).map B)=(mkK k V).map B)
         by_cases q3:dp (grT t) (avA t a V W) most.toNat b=[]
         ·rw [q3] at kl
          rw [if_pos q3]
          simp only [qio] at kl
          (repeat' first|simp only [il12c,go_sem,he2,e1,e2,hl,ht,htk,hs,hm',hm2,lM,tM,tN,List.length_map,kl]|with_reducible refine wX fun _=>?_|((with_reducible refine wY ?_ ?_); rfl)|fail)
         ·rw [if_neg q3]
          have bn:=@q2L (dp (grT t) (avA t a V W) most.toNat b) q3
          rw [rN_ne q3] at kl
          (repeat' first|simp only [il12c,go_sem,he2,e1,e2,hl,ht,htk,hs,hm',hm2,lM,tM,tN,List.length_map,kl,bn]|with_reducible refine wX fun _=>?_|((with_reducible refine wY ?_ ?_); rfl)|fail)
end
end Go.Proofs.Ytnjaokhdeaeegaa
namespace Go.Proofs.Ytnjaokhdeaeegaa
open Go Go.Abs
def begN (t:Tpo) (r:List Nat):Nat:=frN t (r[0]?.getD 0)
def ndN (t:Tpo) (r:List Nat):List Nat:=begN t r::r.map (toN t)
def stpN (t:Tpo) (a:List Nat) (p:Nat):Prop:=(a=[]∨frN t p=atE (grT t) 0 a∧stA t (frN t p)=false)∧toN t p ∉ (ndN t (a++[p])).dropLast
instance (t:Tpo) (a:List Nat) (p:Nat):Decidable (stpN t a p):=inferInstanceAs (Decidable (_∧_))
def okR (t:Tpo) (r:List Nat):Prop:=∀ i p,r[i]? = some p→stpN t (r.take i) p
def vlR (t:Tpo) (r:List Nat):Prop:=Wk (grT t) (freeA (stA t) (begN t r)) (atE (grT t) 0 r) r∧(r.map (toN t)).Nodup
theorem q2M {t:Tpo} {a:List Nat} {p:Nat}:(ndN t (a++[p])).dropLast=begN t (a++[p])::a.map (toN t):=by
 rw [ndN,List.map_append,← List.cons_append,List.map_cons,List.map_nil,List.dropLast_concat]
theorem q2N {t:Tpo} {a:List Nat} {p:Nat} (h:a≠[]):begN t (a++[p])=begN t a:=by
 unfold begN
 rw [List.getElem?_append_left (List.length_pos_iff.2 h)]
theorem qiz {t:Tpo} {a:List Nat} {p:Nat}:okR t (a++[p])↔okR t a∧stpN t a p:=by
 unfold okR
 constructor
 ·intro h
  refine ⟨fun i q hi=>?_,?_⟩
  ·have hlt:=(List.getElem?_eq_some_iff.1 hi).1
   have:=h i q (by rw [List.getElem?_append_left hlt]; exact hi)
   rwa [List.take_append_of_le_length (by omega)] at this
  ·have:=h a.length p (by simp)
   rwa [List.take_left'] at this
   rfl
 ·rintro ⟨h1,h2⟩ i q hi
  by_cases hlt:i < a.length
  ·rw [List.getElem?_append_left hlt] at hi
   rw [List.take_append_of_le_length (by omega)]
   exact h1 i q hi
  ·have hl:=(List.getElem?_eq_some_iff.1 hi).1
   simp only [List.length_append,List.length_cons,List.length_nil] at hl
   obtain rfl:i=a.length:=by omega
   simp at hi
   subst hi
   rwa [List.take_left']
   rfl
theorem qiA {t:Tpo} (h:okT t=true):∀ (r:List Nat),r≠[]→ptP t r→(okR t r↔vlR t r):=by
 intro r
 suffices hrev:∀ l:List Nat,l.reverse≠[]→ptP t l.reverse→(okR t l.reverse↔vlR t l.reverse) by
  have:=hrev r.reverse
  rwa [List.reverse_reverse] at this
 intro l
 induction l with
 | nil=>intro h; exact absurd rfl h
 | cons p l ih =>
  rw [List.reverse_cons]
  intro _ hp
  generalize l.reverse=a at *
  have hpp:=hp p (by simp)
  obtain ⟨p1,p2,n1,n2,n3⟩:=q0p h hpp
  rw [qiz,vlR]
  rcases Classical.em (a=[]) with rfl|hne
  ·constructor
   ·intro _
    refine ⟨?_,by simp⟩
    rw [q0P,List.nil_append]
    exact .one ⟨hpp,rfl,fun e=>n3 e.symm⟩ rfl
   ·intro _
    refine ⟨fun i q hi=>by simp at hi,.inl rfl,?_⟩
    rw [q2M]
    simp
    intro e
    exact n3 (by rw [e]; rfl)
  ·rw [ih hne (fun q hq=>hp q (by simp [hq])),q2N hne,q0P]
   constructor
   ·rintro ⟨⟨w,nd⟩,ok1,ok2⟩
    obtain ⟨e1,e2⟩:=ok1.resolve_left hne
    rw [q2M,q2N hne,List.mem_cons,not_or] at ok2
    refine ⟨.snoc (by show Wk _ _ (frN t p) a; rw [e1]; exact w) e2 rfl ⟨hpp,rfl,ok2.1⟩,?_⟩
    rw [List.map_append,List.nodup_append]
    refine ⟨nd,by simp,fun x hx y hy hxy=>?_⟩
    simp only [List.map_cons,List.map_nil,List.mem_singleton] at hy
    subst hy hxy
    exact ok2.2 hx
   ·rintro ⟨w,nd⟩
    obtain ⟨hok,_,hiv⟩:=w.inv rfl
    rw [List.map_append,List.nodup_append] at nd
    rcases hiv with ⟨k,_⟩|⟨w1,s1,_⟩
    ·exact absurd k hne
    ·have e1:frN t p=atE (grT t) 0 a:=(q3t (frm:=0) w1).symm
     have w1:Wk (grT t) (freeA (stA t) (begN t a)) (frN t p) a:=w1
     rw [e1] at w1
     refine ⟨⟨w1,nd.1⟩,.inr ⟨e1,s1⟩,?_⟩
     rw [q2M,q2N hne,List.mem_cons,not_or]
     exact ⟨hok.2.2,fun hm=>nd.2.2 _ hm (toN t p) (by simp) rfl⟩
end Go.Proofs.Ytnjaokhdeaeegaa
namespace Go.Proofs.Ytnjaokhdeaeegaa
open Go Go.Abs
def vsN (t:Tpo) (a:List Nat):List Nat:=if a=[] then [] else ndN t a
def vlC (t:Tpo) (_:Nat) (x:Int) (a:List Nat):Ctl (List Nat) Bool:=if x < 0∨((2*t.links.length:Nat):Int)≤x then .out false else if stpN t a x.toNat then .go (a++[x.toNat]) else .out false
def vldP (t:Tpo) (r:List Int):Prop:=(1≤r.length∧r.length≤8)∧(∀ x∈r,0≤x∧x < ((2*t.links.length:Nat):Int))∧okR t (r.map Int.toNat)
noncomputable def vldB (t:Tpo) (r:List Int):Bool:=@decide (vldP t r) (Classical.propDecidable _)
theorem q2O {t:Tpo} {r:List Int}:vldB t r=true↔vldP t r:=by simp [vldB]
theorem qiB (t:Tpo):∀ (r:List Int) (i:Nat) (a:List Nat),okR t a→(foldC (vlC t) (fun _=>true) i r a=true↔(∀ x∈r,0≤x∧x < ((2*t.links.length:Nat):Int))∧okR t (a++r.map Int.toNat)):=by
 intro r
 induction r with
 | nil=>intro i a ha; simp [foldC,ha]
 | cons x r ih =>
  intro i a ha
  by_cases hx:x < 0∨((2*t.links.length:Nat):Int)≤x
  ·rw [q0D (r:=false) (by rw [vlC,if_pos hx])]
   constructor
   ·intro k; cases k
   ·rintro ⟨k,_⟩
    have:=k x (by simp)
    omega
  ·by_cases hs:stpN t a x.toNat
   ·rw [q0l (s':=a++[x.toNat]) (by rw [vlC,if_neg hx,if_pos hs]),ih _ _ (qiz.2 ⟨ha,hs⟩),List.append_assoc]
    constructor
    ·rintro ⟨k1,k2⟩
     refine ⟨fun y hy=>?_,k2⟩
     rcases List.mem_cons.1 hy with rfl|hy
     ·omega
     ·exact k1 y hy
    ·rintro ⟨k1,k2⟩
     exact ⟨fun y hy=>k1 y (List.mem_cons_of_mem _ hy),k2⟩
   ·rw [q0D (r:=false) (by rw [vlC,if_neg hx,if_neg hs])]
    constructor
    ·intro k; cases k
    ·rintro ⟨_,k⟩
     exfalso
     apply hs
     have:=k a.length x.toNat (by simp)
     rwa [List.take_left'] at this
     rfl
section
variable (c1 c2 c:Bool) (t:Tpo) (h:okT t=true)
include h
theorem qiC (r:List Int) (hr:r.length≤1000):ans Try.prog pol 49 [srT c1 c2 t,.sl c 1 (r.map I)]=some (B (vldB t r)):=by
 obtain ⟨z1,z2,z3⟩:=q0h h
 have hsr:=q0x (c1:=c1) (c2:=c2) (t:=t) (F:=endsL t (frP t)) (G:=endsL t (toP t))
 have hl:=q0E (c1:=c1) (c2:=c2) (t:=t) (q09 t (frP t)) (q09 t (toP t))
 have htk:List.take 99 (srS c1 c2 t)=srS c1 c2 t:=List.take_of_length_le (by rw [hl]; exact Nat.le_refl _)
 have kP:=q1E c1 c2 t (endsL t (frP t)) (endsL t (toP t)) h
 have zB:zB12=(mkK 12 []).map B:=rfl
 have sM:=fun k V=>q22 (mkK k V)
 have lM:=fun k V=>q0V k V
 by_cases h1:r.length < 1
 ·have e1:decide (((r.length:Nat):Int) < 1)=true:=decide_eq_true (by omega)
  have hA:vldB t r=false:=by rw [← Bool.not_eq_true,q2O]; intro k; have:=k.1; omega
  rw [hA]
  refine q02 1 1 il49_eq (Nat.le_of_ble_eq_true rfl) ?_
  (repeat' first|simp only [il49c,go_sem,hsr,e1,List.length_map]|with_reducible refine wX fun _=>?_|((with_reducible refine wY ?_ ?_); rfl)|fail)
 have e1:decide (((r.length:Nat):Int) < 1)=false:=decide_eq_false (by omega)
 by_cases h8:8 < r.length
 ·have e2:decide ((8:Int) < ((r.length:Nat):Int))=true:=decide_eq_true (by omega)
  have hA:vldB t r=false:=by rw [← Bool.not_eq_true,q2O]; intro k; have:=k.1; omega
  rw [hA]
  refine q02 1 1 il49_eq (Nat.le_of_ble_eq_true rfl) ?_
  (repeat' first|simp only [il49c,go_sem,hsr,e1,e2,List.length_map]|with_reducible refine wX fun _=>?_|((with_reducible refine wY ?_ ?_); rfl)|fail)
 have e2:decide ((8:Int) < ((r.length:Nat):Int))=false:=decide_eq_false (by omega)
 have hA:vldB t r=foldC (vlC t) (fun _=>true) 0 r []:=by
  rw [Bool.eq_iff_iff,q2O,qiB t r 0 [] (fun i p hi=>by simp at hi),List.nil_append]
  exact ⟨fun k=>k.2,fun k=>⟨by omega,k⟩⟩
 rw [hA]
 clear hA
 obtain ⟨nn,hnn⟩:∃ nn,2000 < nn:=⟨2001,by omega⟩
 refine q02 nn 1 il49_eq (Nat.le_of_ble_eq_true rfl) ?_
 (repeat' first|simp only [il49c,go_sem,hsr,e1,e2,zB,sM,lM,List.length_map]|with_reducible refine wX fun _=>?_|((with_reducible refine wY ?_ ?_); rfl)|fail)
 refine q0j r I (step:=vlC t) (fin:=fun _=>true)
  (St:=fun i a e h=>(e 1=.t (.sl c 1 (r.map I))∧e 2=.t (.ip (srS c1 c2 t))∧e 5=.ref 0 1 0 0∧e 17=.t (.sl c 1 (r.map I))∧e 18=.t (I (r.length:Nat))∧e 19=.t (I (i:Nat)))∧(a=(r.take i).map Int.toNat∧ptP t a∧∀ x∈r.take i,0≤x)∧∃ m,m≤1∧h=[.row 12 [.t (.agg ((mkK 12 (vsN t a)).map B))] m])
  (Ex:=fun s x e h=>(x=.ret∧s=false∧e 4=.t (B false))∨(x=.exit 0∧s=true)) (s:=[]) (by omega) ?_ ?_ (by omega) ?_ ?_
 ·intro i x a e h' Y R hm hi hx hget hlt hw ⟨hs,⟨ha,hpa,hnn0⟩,m,hm1,hh⟩ hk
  subst hh
  have htake:r.take (i+1)=r.take i++[x]:=by
   rw [List.take_add_one,hx]; rfl
  unfold vlC at hk
  by_cases q0:x < 0∨((2*t.links.length:Nat):Int)≤x
  ·rw [if_pos q0,q0b] at hk
   by_cases q1:x < 0
   ·have g1:=decide_eq_true q1
    (repeat' first|simp only [il49l0_go,il49l0b,go_sem,hs,hlt,hget,hi,g1,List.length_map]|with_reducible refine wX fun _=>?_|((with_reducible refine wY ?_ ?_); rfl)|fail)
    all_goals (refine hk _ _ _ (.inl ⟨rfl,rfl,?_⟩); simp only [go_sem])
   ·have g1:=decide_eq_false q1
    have g2:decide (((2*t.links.length:Nat):Int)≤x)=true:=decide_eq_true (by omega)
    (repeat' first|simp only [il49l0_go,il49l0b,go_sem,hs,hlt,hget,hi,g1,g2,List.length_map,hl,htk,kP]|with_reducible refine wX fun _=>?_|((with_reducible refine wY ?_ ?_); rfl)|fail)
    all_goals (refine hk _ _ _ (.inl ⟨rfl,rfl,?_⟩); simp only [go_sem])
  ·rw [if_neg q0] at hk
   obtain ⟨p,rfl⟩:∃ p:Nat,x=p:=⟨x.toNat,by omega⟩
   rw [Int.toNat_natCast] at hk
   have hp:p < 2*t.links.length:=by omega
   have g1:decide (((p:Nat):Int) < 0)=false:=decide_eq_false (by omega)
   have g2:decide (((2*t.links.length:Nat):Int)≤((p:Nat):Int))=false:=decide_eq_false (by omega)
   obtain ⟨p1,p2,n1,n2,n3⟩:=q0p h hp
   have gF:=q2D (c1:=c1) (c2:=c2) (t:=t) (G:=endsL t (toP t)) (q0Q (f:=frP t) z3 hp)
   have gT:=q1m (c1:=c1) (c2:=c2) (t:=t) (q09 t (frP t)) (q0Q (f:=toP t) z3 hp)
   rw [p1] at gF
   rw [p2] at gT
   have h48:p < 48:=by omega
   have f12:frN t p < 12:=by omega
   have t12:toN t p < 12:=by omega
   have fb:frN t p+1≤12:=f12
   have tb:toN t p+1≤12:=t12
   have tk:=fun V (n:Nat) (hn:n < 12)=>@tkdr (((mkK 12 V).map B).map AV.t) n (.t (B true)) (by simp [q0V]; omega)
   have hset:=fun V (n:Nat)=>map_set (enc:=B) (l:=mkK 12 V) (i:=n) (x:=true)
   have hmt:=fun V (n:Nat)=>@q76 12 V n
   have gM:=fun V:List Nat=>(q1Y (enc:=B) (by rw [mkK,List.getElem?_map,List.getElem?_range t12]; rfl):(((mkK 12 V).map B).map AV.t)[toN t p]? = some (.t (B (decide (toN t p∈V)))))
   have gst:(t.station.map B)[frN t p]? = some (B (stA t (frN t p))):=q1H t h n1
   have hst:frN t p < t.station.length:=by omega
   have hnd:=@q2M t a p
   have hpa2:ptP t (a++[p]):=fun q hq=>(List.mem_append.1 hq).elim (hpa q) (fun hq=>by rw [List.mem_singleton.1 hq]; exact hp)
   have hst2:a++[p]=(r.take (i+1)).map Int.toNat∧ptP t (a++[p])∧∀ x∈r.take (i+1),0≤x:=by
    rw [htake]
    refine ⟨by rw [List.map_append,← ha]; rfl,hpa2,fun y hy=>?_⟩
    rcases List.mem_append.1 hy with hy|hy
    ·exact hnn0 y hy
    ·rw [List.mem_singleton.1 hy]; omega
   have hv2:vsN t (a++[p])=(begN t (a++[p])::a.map (toN t))++[toN t p]:=by
    rw [vsN,if_neg (by simp),ndN,List.map_append]; rfl
   have hal:a.length=i:=by rw [ha,List.length_map,List.length_take]; omega
   by_cases h0:i=0
   ·have ha0:a=[]:=List.eq_nil_of_length_eq_zero (by omega)
    have g3:decide (((i:Nat):Int)=0)=true:=decide_eq_true (by omega)
    have hv:vsN t a=[]:=by rw [ha0]; rfl
    have hstp:stpN t a p:=by
     refine ⟨.inl ha0,?_⟩
     rw [hnd,ha0]
     simp
     intro e
     exact n3 (by rw [e]; rfl)
    have hnm:decide (toN t p∈[frN t p])=false:=decide_eq_false (by simp; omega)
    have gM2:=gM [frN t p]
    rw [hnm] at gM2
    rw [if_pos hstp,q07] at hk
    rw [hv]
    have hv3:vsN t (a++[p])=[frN t p,toN t p]:=by rw [hv2,ha0]; rfl
    have hmt1:(mkK 12 []).set (frN t p) true=mkK 12 [frN t p]:=hmt [] _
    have hmt2:(mkK 12 [frN t p]).set (toN t p) true=mkK 12 [frN t p,toN t p]:=hmt [frN t p] _
    (repeat' first|simp only [il49l0_go,il49l0b,go_sem,hs,hlt,hw,hget,hi,g1,g2,g3,List.length_map,hl,htk,kP,gF,gT,h48,f12,t12,fb,tb,tk,hset,hmt1,hmt2,gM2,lM,hm1,q0a,Nat.mul_one,List.drop_drop]|with_reducible refine wX fun _=>?_|((with_reducible refine wY ?_ ?_); rfl)|fail)
    all_goals (refine hk _ _ ⟨?_,hst2,1,Nat.le_refl 1,by rw [hv3]⟩; simp only [go_sem,hs,hw])
   ·have hane:a≠[]:=fun e=>h0 (by rw [← hal,e]; rfl)
    have g3:decide (((i:Nat):Int)=0)=false:=decide_eq_false (by omega)
    obtain ⟨a',q,hq⟩:∃ a' q,a=a'++[q]:=⟨a.dropLast,a.getLast hane,(List.dropLast_concat_getLast hane).symm⟩
    have hat:atE (grT t) 0 a=toN t q:=by rw [hq,q0P]; rfl
    have hqp:q < 2*t.links.length:=hpa q (by rw [hq]; simp)
    obtain ⟨y1,y2,y3,y4,y5⟩:=q0p h hqp
    have gQ:=q1m (c1:=c1) (c2:=c2) (t:=t) (q09 t (frP t)) (q0Q (f:=toP t) z3 hqp)
    rw [y2] at gQ
    have q48:q < 48:=by omega
    have w1:IntKind.i64.wrap (((i:Nat):Int) - 1)=((i - 1:Nat):Int):=by rw [q00 (by omega) (by omega)]; omega
    have hi1:i - 1 < r.length:=by omega
    have hri:r[i - 1]? = some ((q:Nat):Int):=by
     have e1:a[i - 1]? = some q:=by rw [hq]; have:i - 1=a'.length:=by rw [hq] at hal; simp at hal; omega
                                    rw [this]; simp
     rw [ha,List.getElem?_map,List.getElem?_take,if_pos (by omega),List.getElem?_eq_getElem hi1] at e1
     rw [List.getElem?_eq_getElem hi1]
     simp only [Option.map_some,Option.some.injEq] at e1 ⊢
     have:=hnn0 r[i - 1] (List.mem_iff_getElem?.2 ⟨i - 1,by rw [List.getElem?_take,if_pos (by omega),List.getElem?_eq_getElem hi1]⟩)
     omega
    have gr1:(r.map I)[i - 1]? = some (I ((q:Nat):Int)):=by rw [List.getElem?_map,hri]; rfl
    have hv:vsN t a=begN t (a++[p])::a.map (toN t):=by rw [vsN,if_neg hane,q2N hane]; rfl
    have hstp:stpN t a p↔(frN t p=toN t q∧stA t (frN t p)=false)∧toN t p ∉ vsN t a:=by
     rw [hv,stpN,hnd,hat]
     exact ⟨fun k=>⟨k.1.resolve_left hane,k.2⟩,fun k=>⟨.inr k.1,k.2⟩⟩
    have hv4:vsN t (a++[p])=vsN t a++[toN t p]:=by rw [hv2,hv]
    have gM2:=gM (vsN t a)
    have hmt2:=hmt (vsN t a) (toN t p)
    generalize vsN t a=V at *
    by_cases z0:frN t p=toN t q
    ·have g4:decide (((frN t p:Nat):Int)=((toN t q:Nat):Int))=true:=decide_eq_true (by omega)
     cases z5:stA t (frN t p) with
     | true =>
      rw [z5] at gst
      rw [if_neg (fun k=>by have:=(hstp.1 k).1.2; rw [z5] at this; cases this),q0b] at hk
      (repeat' first|simp only [il49l0_go,il49l0b,go_sem,hs,hlt,hw,hget,hi,g1,g2,g3,g4,w1,hi1,gr1,List.length_map,hl,htk,kP,gF,gT,gQ,q48,h48,f12,t12,gst,hst,srC_1,lM,hm1,q0a,Nat.mul_one,List.drop_drop]|with_reducible refine wX fun _=>?_|((with_reducible refine wY ?_ ?_); rfl)|fail)
      all_goals (refine hk _ _ _ (.inl ⟨rfl,rfl,?_⟩); simp only [go_sem])
     | false =>
      rw [z5] at gst
      cases z6:decide (toN t p∈V) with
      | true =>
       rw [z6] at gM2
       rw [if_neg (fun k=>(hstp.1 k).2 (of_decide_eq_true z6)),q0b] at hk
       (repeat' first|simp only [il49l0_go,il49l0b,go_sem,hs,hlt,hw,hget,hi,g1,g2,g3,g4,w1,hi1,gr1,List.length_map,hl,htk,kP,gF,gT,gQ,q48,h48,f12,t12,gst,hst,srC_1,gM2,lM,hm1,q0a,Nat.mul_one,List.drop_drop]|with_reducible refine wX fun _=>?_|((with_reducible refine wY ?_ ?_); rfl)|fail)
       all_goals (refine hk _ _ _ (.inl ⟨rfl,rfl,?_⟩); simp only [go_sem])
      | false =>
       rw [z6] at gM2
       rw [if_pos (hstp.2 ⟨⟨z0,z5⟩,of_decide_eq_false z6⟩),q07] at hk
       (repeat' first|simp only [il49l0_go,il49l0b,go_sem,hs,hlt,hw,hget,hi,g1,g2,g3,g4,w1,hi1,gr1,List.length_map,hl,htk,kP,gF,gT,gQ,q48,h48,f12,t12,tb,tk,hset,hmt2,gst,hst,srC_1,gM2,lM,hm1,q0a,Nat.mul_one,List.drop_drop]|with_reducible refine wX fun _=>?_|((with_reducible refine wY ?_ ?_); rfl)|fail)
       all_goals (refine hk _ _ ⟨?_,hst2,1,Nat.le_refl 1,by rw [hv4]⟩; simp only [go_sem,hs,hw])
    ·have g4:decide (((frN t p:Nat):Int)=((toN t q:Nat):Int))=false:=decide_eq_false (by omega)
     rw [if_neg (fun k=>z0 (hstp.1 k).1.1),q0b] at hk
     (repeat' first|simp only [il49l0_go,il49l0b,go_sem,hs,hlt,hw,hget,hi,g1,g2,g3,g4,w1,hi1,gr1,List.length_map,hl,htk,kP,gF,gT,gQ,q48,h48,f12,t12,lM,hm1,q0a,Nat.mul_one,List.drop_drop]|with_reducible refine wX fun _=>?_|((with_reducible refine wY ?_ ?_); rfl)|fail)
     all_goals (refine hk _ _ _ (.inl ⟨rfl,rfl,?_⟩); simp only [go_sem])
 ·intro a e h' Y R hlt ⟨hs,_,m,hm1,hh⟩ hk
  subst hh
  (repeat' first|simp only [il49l0_go,il49l0b,go_sem,hs,hlt]|with_reducible refine wX fun _=>?_|((with_reducible refine wY ?_ ?_); rfl)|fail)
  all_goals exact hk _ _ _ (.inr ⟨rfl,rfl⟩)
 ·refine ⟨?_,⟨rfl,(fun p hp=>by cases hp),(fun x hx=>by simp at hx)⟩,0,Nat.zero_le _,rfl⟩
  simp only [go_sem,List.length_map]
 ·intro x e h' hx
  rcases hx with ⟨rfl,hx,h4⟩|⟨rfl,hx⟩
  ·rw [hx]
   (repeat' first|simp only [il49c,go_sem,h4]|with_reducible refine wX fun _=>?_|((with_reducible refine wY ?_ ?_); rfl)|fail)
  ·rw [hx]
   (repeat' first|simp only [il49c,go_sem]|with_reducible refine wX fun _=>?_|((with_reducible refine wY ?_ ?_); rfl)|fail)
omit h in
theorem qiD {r:List Int} {k:Int} (hr:∀ x∈r,0≤x∧x < k):r.map I=ptL (r.map Int.toNat):=by
 have e:(r.map Int.toNat).map ofN=r:=by
  induction r with
  | nil=>rfl
  | cons x r ih =>
   rw [List.map_cons,List.map_cons,ih (fun y hy=>hr y (List.mem_cons_of_mem _ hy))]
   have:=hr x (by simp)
   congr 1
   show ((x.toNat:Nat):Int)=x
   omega
 rw [ptL,e]
omit h in
theorem qiE {r:List Int} (hr:∀ x∈r,0≤x∧x < ((2*t.links.length:Nat):Int)):ptP t (r.map Int.toNat):=by
 intro p hp
 obtain ⟨x,hx,rfl⟩:=List.mem_map.1 hp
 have:=hr x hx
 omega
noncomputable def csA (t:Tpo) (r:List Int):T:=if vldB t r=true then .tup [I (gw (grT t) (r.map Int.toNat)),I 0] else .tup [I 0,I 310]
theorem qiF (r:List Int) (hr:r.length≤1000):ans Try.prog pol 20 [tpT c1 c2 t,.sl c 1 (r.map I)]=some (csA t r):=by
 have k1:=q3J c1 c2 t h
 have kv:=qiC c1 c2 c t h r hr
 have hdr:List.drop 99 (zS99.map AV.t)=[]:=rfl
 have hl:=q0E (c1:=c1) (c2:=c2) (t:=t) (q09 t (frP t)) (q09 t (toP t))
 have ht:=q1F hl
 have htk:List.take 99 (srS c1 c2 t)=srS c1 c2 t:=List.take_of_length_le (by rw [hl]; exact Nat.le_refl _)
 have hs:=q0x (c1:=c1) (c2:=c2) (t:=t) (F:=endsL t (frP t)) (G:=endsL t (toP t))
 unfold csA
 cases hv:vldB t r with
 | false =>
  rw [hv] at kv
  refine q02 1 1 il20_eq (Nat.le_of_ble_eq_true rfl) ?_
  (repeat' first|simp only [il20c,go_sem,k1,q0u,q0y,hdr,hl,ht,htk,hs,kv]|with_reducible refine wX fun _=>?_|((with_reducible refine wY ?_ ?_); rfl)|fail)
 | true =>
  rw [hv] at kv
  obtain ⟨_,v2,_⟩:=q2O.1 hv
  have kc:=q3K c1 c2 c t h (r.map Int.toNat) (qiE t v2) (by rw [List.length_map]; exact hr)
  rw [← qiD v2] at kc
  generalize gw (grT t) (r.map Int.toNat)=C at *
  refine q02 1 1 il20_eq (Nat.le_of_ble_eq_true rfl) ?_
  (repeat' first|simp only [il20c,go_sem,k1,q0u,q0y,hdr,hl,ht,htk,hs,kv,kc]|with_reducible refine wX fun _=>?_|((with_reducible refine wY ?_ ?_); rfl)|fail)
end
end Go.Proofs.Ytnjaokhdeaeegaa
namespace Go.Proofs.Ytnjaokhdeaeegaa
open Go Go.Abs
section
variable (c1 c2:Bool) (t:Tpo) (h:okT t=true) (frm:Nat) (hf:frm < t.nodes.toNat) (node link:Int)
include h hf
end
end Go.Proofs.Ytnjaokhdeaeegaa
namespace Go.Proofs.Ytnjaokhdeaeegaa
open Go Go.Abs
section
variable (c1 c2:Bool) (t:Tpo) (h:okT t=true)
include h
end
end Go.Proofs.Ytnjaokhdeaeegaa
namespace Go.Proofs.Ytnjaokhdeaeegaa
open Go Go.Abs
def qB (G:Gr) (V W:List Nat) (most:Nat) (r:List Nat):Bool:=decide (r.length≤most) && (r.all (fun p=>!decide (p / 2∈W)) && r.dropLast.all (fun q=>!decide (G.to q∈V)))
theorem qiG {G:Gr} {V W:List Nat} {most:Nat} {r:List Nat}:qB G V W most r=true↔r.length≤most∧avP G (fun n=>decide (n∈V)) (fun l=>decide (l∈W)) r:=by
 simp only [qB,Bool.and_eq_true,decide_eq_true_eq,List.all_eq_true,Bool.not_eq_true',avP]
theorem q7c {t:Tpo} (h:okT t=true) (a b:Nat) (V W:List Nat) {most:Nat} (hm:most≤8):dp (grT t) (avA t a V W) most b=pickL (grT t) (qB (grT t) V W most) (routesL (grT t) (stA t) a b) :=
 q9s (gr_w h) (gr_x h) hm (fun r=>qiG)
def meshT:Tpo:=⟨5,[false,false,false,true,true],[⟨0,1,1,5⟩,⟨1,2,1,5⟩,⟨0,2,1,20⟩,⟨3,0,1,0⟩,⟨3,1,1,0⟩,⟨4,2,1,0⟩]⟩
theorem qiH:okT meshT=true:=by decide +kernel
theorem qiI:ans Try.prog pol 33 []=some (tpT true true meshT):=q8J (n:=10) 3 (by kernel_rfl)
theorem ex1:pickL (grT meshT) (qB (grT meshT) [] [] 8) (routesL (grT meshT) (stA meshT) 3 4)=[8,2,11]:=by decide +kernel
theorem ex2:pickL (grT meshT) (qB (grT meshT) [1] [] 8) (routesL (grT meshT) (stA meshT) 3 4)=[6,4,11]:=by decide +kernel
theorem ex3:pairR (grT meshT) (routesL (grT meshT) (stA meshT) 3 2)=([8,2],[6,4]):=by decide +kernel
theorem ex4:pairR (grT meshT) (routesL (grT meshT) (stA meshT) 3 4)=([],[]):=by decide +kernel
theorem ex5:sepR meshT 3 4=(2,-1,true):=by decide +kernel
end Go.Proofs.Ytnjaokhdeaeegaa
namespace Go.Proofs.Ytnjaokhdeaeegaa
open Go Go.Abs
theorem qiJ (c c':Bool) (a b:List (Int)) (hl:a.length≤1000000):ans Try.prog pol 17 [.sl c 1 (a.map I),.sl c' 1 (b.map I)]=some (B (decide (a=b))):=by
 refine q02 (a.length+1) 1 il17_eq (Nat.le_of_ble_eq_true rfl) ?_
 by_cases hlen:a.length=b.length
 ·have d0:decide ((a.length:Int)=(b.length:Int))=true:=decide_eq_true (by omega)
  (repeat' first|simp only [il17c,go_sem,d0]|with_reducible refine wX fun _=>?_|((with_reducible refine wY ?_ ?_); rfl)|fail)
  refine q0j a I (step:=fun i x (_:Unit)=>if b[i]? = some x then Ctl.go () else Ctl.out false) (fin:=fun _=>true) (St:=fun i s e h=>h=[]∧e 0=.t (.sl c 1 (a.map I))∧e 1=.t (.sl c' 1 (b.map I))∧e 12=.t (I (a.length:Nat))∧e 13=.t (I (i:Nat)))
   (Ex:=fun r x e h=>r=true∧x=.exit 0∨r=false∧x=.ret∧e 4=.t (B false)) (s:=()) (by omega) ?_ ?_ (by omega) ?_ ?_
  ·intro i x s e h Y R hm hi hx hget hlt hw ⟨h0,hs⟩ hk
   subst h0
   obtain ⟨y,hy⟩:∃ y,b[i]? = some y:=⟨b[i],by simp⟩
   have hgb:(b.map I)[i]? = some (I y):=by simp [hy]
   by_cases hxy:x=y
   ·have hd:(decide (x=y))=true:=decide_eq_true hxy
    simp only [hy,hxy,if_true,q07] at hk
    (repeat' first|simp only [il17l0_go,il17l0b,go_sem,hs,hget,hgb,hlt,hw,hd]|with_reducible refine wX fun _=>?_|((with_reducible refine wY ?_ ?_); rfl)|fail)
    all_goals (refine hk _ _ ?_; simp only [go_sem,hs,hw])
   ·have hd:(decide (x=y))=false:=decide_eq_false hxy
    rw [if_neg (by rw [hy]; intro h; exact hxy (Option.some.inj h).symm),q0b] at hk
    (repeat' first|simp only [il17l0_go,il17l0b,go_sem,hs,hget,hgb,hlt,hw,hd]|with_reducible refine wX fun _=>?_|((with_reducible refine wY ?_ ?_); rfl)|fail)
    all_goals (refine hk _ _ _ (.inr ?_); simp only [go_sem])
  ·intro s e h Y R hlt ⟨h0,hs⟩ hk
   subst h0
   (repeat' first|simp only [il17l0_go,il17l0b,go_sem,hs,hlt]|with_reducible refine wX fun _=>?_|((with_reducible refine wY ?_ ?_); rfl)|fail)
   all_goals (refine hk _ _ _ (.inl ?_); simp only [go_sem])
  ·simp only [go_sem]
  ·intro x e h hx
   rw [qg0 b a 0 b (by simp) hlen] at hx
   rcases hx with ⟨hx,rfl⟩|⟨hx,rfl,e4⟩
   ·(repeat' first|simp only [il17c,go_sem,hx]|with_reducible refine wX fun _=>?_|((with_reducible refine wY ?_ ?_); rfl)|fail)
   ·(repeat' first|simp only [il17c,go_sem,e4,hx]|with_reducible refine wX fun _=>?_|((with_reducible refine wY ?_ ?_); rfl)|fail)
 ·have d0:decide ((a.length:Int)=(b.length:Int))=false:=decide_eq_false (by omega)
  have d1:decide (a=b)=false:=decide_eq_false (fun h=>hlen (by rw [h]))
  (repeat' first|simp only [il17c,go_sem,d0,d1]|with_reducible refine wX fun _=>?_|((with_reducible refine wY ?_ ?_); rfl)|fail)
theorem q1L (c c':Bool) (a b:List Nat) (hl:a.length≤1000):ans Try.prog pol 17 [.sl c 1 (ptL a),.sl c' 1 (ptL b)]=some (B (decide (a=b))):=by
 have h:=qiJ c c' (a.map ofN) (b.map ofN) (by rw [List.length_map]; omega)
 have e:decide (a.map ofN=b.map ofN)=decide (a=b):=by
  rw [Bool.eq_iff_iff,decide_eq_true_eq,decide_eq_true_eq]
  exact ⟨fun h=>List.map_inj_right (fun x y h=>by have h:((x:Nat):Int)=((y:Nat):Int):=h; omega) |>.1 h,fun h=>by rw [h]⟩
 rw [e] at h
 exact h
theorem qiK:ans Try.prog pol 10 []=some (B true):=by
 have hok:=qiH
 have e34:endP meshT 3 4:=by decide +kernel
 have e32:endP meshT 3 2:=by decide +kernel
 have kM:=qiI
 have k1:ans Try.prog pol 12 [tpT true true meshT,I 3,I 4,.agg [nilT,nilT],I 8]=some (.tup [.sl false 1 (ptL [8,2,11]),I 0]):=by
  have k:=q7b true true meshT hok 3 4 e34 q43 q43 (by simp) (by simp) 8
  have e:lsA meshT 3 4 [] [] 8=.tup [rgT [8,2,11],I 0]:=by
   unfold lsA
   rw [if_pos (by decide +kernel),show (8:Int).toNat=8 from rfl,List.map_nil,q7c hok 3 4 [] [] (Nat.le_refl 8),ex1]; rfl
  rw [e] at k
  exact k
 have k2:ans Try.prog pol 12 [tpT true true meshT,I 3,I 4,.agg [.sl true 1 [I 1],nilT],I 8]=some (.tup [.sl false 1 (ptL [6,4,11]),I 0]):=by
  have k:=q7b true true meshT hok 3 4 e34 (qiy (c:=true) (N:=[1])) q43 (by simp) (by simp) 8
  have e:lsA meshT 3 4 [1] [] 8=.tup [rgT [6,4,11],I 0]:=by
   unfold lsA
   rw [if_pos (by decide +kernel),show (8:Int).toNat=8 from rfl,List.map_nil,show List.map Int.toNat [1]=[1] from rfl,q7c hok 3 4 [1] [] (Nat.le_refl 8),ex2]; rfl
  rw [e] at k
  exact k
 have k3:ans Try.prog pol 20 [tpT true true meshT,.sl false 1 (ptL [8,2,11])]=some (.tup [I 8,I 0]):=by
  have k:=qiF true true false meshT hok [8,2,11] (by simp)
  have hv:vldB meshT [8,2,11]=true:=by
   rw [q2O]
   refine ⟨by decide,by decide +kernel,?_⟩
   rw [qiA hok _ (by simp) (by unfold ptP; decide +kernel)]
   have hm:[8,2,11]∈routesL (grT meshT) (stA meshT) 3 4:=by decide +kernel
   obtain ⟨w,nd,_⟩:=(q1V (gr_x hok)).1 hm
   have e1:begN meshT (List.map Int.toNat [8,2,11])=3:=by decide +kernel
   have e2:atE (grT meshT) 0 (List.map Int.toNat [8,2,11])=4:=by decide +kernel
   unfold vlR
   rw [e1,e2]
   exact ⟨w,nd⟩
  have e:csA meshT [8,2,11]=.tup [I 8,I 0]:=by
   unfold csA
   rw [if_pos hv,show gw (grT meshT) (List.map Int.toNat [8,2,11])=8 by decide +kernel]
  rw [e] at k
  exact k
 have k4:ans Try.prog pol 18 [tpT true true meshT,I 3,I 2]=some (.tup [.sl false 1 (ptL [8,2]),.sl false 1 (ptL [6,4]),I 0]):=by
  have k:=q41 true true meshT hok 3 2 e32
  rw [ex3] at k
  exact k
 have k5:ans Try.prog pol 18 [tpT true true meshT,I 3,I 4]=some (.tup [nilT,nilT,I 4]):=by
  have k:=q41 true true meshT hok 3 4 e34
  rw [ex4] at k
  exact k
 have k6:ans Try.prog pol 24 [tpT true true meshT,I 3,I 4]=some (.tup [.agg [I 2,I (-1)],B true,I 0]):=by
  have k:=qh5 true true meshT 3 4 hok e34
  rw [ex5] at k
  exact k
 have q1:ans Try.prog pol 17 [.sl false 1 (ptL [8,2,11]),.sl true 1 [I 8,I 2,I 11]]=some (B true):=q1L false true [8,2,11] [8,2,11] (by simp)
 have q2:ans Try.prog pol 17 [.sl false 1 (ptL [6,4,11]),.sl true 1 [I 6,I 4,I 11]]=some (B true):=q1L false true [6,4,11] [6,4,11] (by simp)
 have q3:ans Try.prog pol 17 [.sl false 1 (ptL [8,2]),.sl true 1 [I 8,I 2]]=some (B true):=q1L false true [8,2] [8,2] (by simp)
 have q4:ans Try.prog pol 17 [.sl false 1 (ptL [6,4]),.sl true 1 [I 6,I 4]]=some (B true):=q1L false true [6,4] [6,4] (by simp)
 generalize ptL [8,2,11]=P1 at *
 generalize ptL [6,4,11]=P2 at *
 generalize ptL [8,2]=P3 at *
 generalize ptL [6,4]=P4 at *
 have tT:∀ t:Tpo,List.take 3 (tpC true true t)=tpC true true t:=fun _=>rfl
 refine q02 10 1 il10_eq (Nat.le_of_ble_eq_true rfl) ?_
 generalize meshT=M at *
 (repeat' first|simp only [il10c,go_sem,kM,k1,k2,k3,k4,k5,k6,q1,q2,q3,q4,tT]|with_reducible refine wX fun _=>?_|((with_reducible refine wY ?_ ?_); rfl)|fail)
 all_goals done
end Go.Proofs.Ytnjaokhdeaeegaa
namespace Go.Proofs.Ytnjaokhdeaeegaa
open Go Go.Abs
theorem qiL (n:Nat):ans Try.prog pol 55 [.sc (.slice none 0 0),I (n:Nat)]=some (B false):=by
 refine q02 10 1 il55_eq (Nat.le_of_ble_eq_true rfl) ?_
 (repeat' first|simp only [il55c,go_sem]|with_reducible refine wX fun _=>?_|((with_reducible refine wY ?_ ?_); rfl)|((with_reducible refine q0Z (body:=wc _ _ _ _ _ _ il55l0) ?_ ?_); exact Nat.le_of_ble_eq_true rfl; simp only [il55l0_go,il55l0b])|fail)
theorem q7d {l:List Bool} {n:Nat} (h:l[n]? = some true):l.set n true=l:=by
 refine List.ext_getElem? (fun m=>?_)
 by_cases e:n=m
 ·subst e; rw [List.getElem?_set_self (List.getElem?_eq_some_iff.1 h).1,h]
 ·rw [List.getElem?_set_ne e]
theorem qiM {i:Nat} {r:List Bool} {l:Lk} (ha:l.a.toNat < r.length) (hb:l.b.toNat < r.length) :
  rStep (fun _=>false) i r l=if (rB r l.a || rB r l.b)=true then (r.set l.a.toNat true).set l.b.toNat true else r:=by
 unfold rStep
 cases h1:rB r l.a <;> cases h2:rB r l.b
 ·rfl
 ·rfl
 ·rfl
 ·simp only [Bool.not_false,Bool.true_and,bne_self_eq_false,Bool.false_eq_true,if_false,Bool.or_self,if_true]
  have e1:r[l.a.toNat]? = some true:=by rw [rB,List.getElem?_eq_getElem ha] at h1; rw [List.getElem?_eq_getElem ha]; exact congrArg some h1
  have e2:r[l.b.toNat]? = some true:=by rw [rB,List.getElem?_eq_getElem hb] at h2; rw [List.getElem?_eq_getElem hb]; exact congrArg some h2
  rw [q7d e1,q7d e2]
theorem qiN (t:Tpo) (hv:∀ l∈t.links,endsP t l) (hb:t.links.length≤24) (c1 c2:Bool) (N:Nat) (hN:(N:Int)=t.nodes) (x8:T) (r:List Bool) (hr:r.length=N) (mr:Nat) (hmr:mr≤N)
  (J:Inl) (nn:Nat) (hn:100 < nn) (R:Xit→FEnv→Heap→Prop) (e:FEnv)
  (he:e 2=.t (.sc (.slice none 0 0))∧e 3=.t (.ip (tpC c1 c2 t))∧e 7=.ms 0 N 0 N 1 true∧e 8=.t x8∧e 9=.t (I 0))
  (hR:∀ e mr,mr≤N→(e 2=.t (.sc (.slice none 0 0))∧e 3=.t (.ip (tpC c1 c2 t))∧e 7=.ms 0 N 0 N 1 true∧e 8=.t x8)→R (.exit 2) e [.row 1 (((rRound (fun _=>false) 0 t.links r).map B).map .t) mr]) :
  wpIter 1 (some [2,3,7,8,9]) (wc Try.prog pol (ans Try.prog pol) J nn 53 il53l0) R nn e [.row 1 ((r.map B).map .t) mr]:=by
 have hst:∀ (r:List Bool) (n:Nat),(((r.map B).map AV.t).set n (.t (B true)))=((r.set n true).map B).map .t:=fun r n=>map_set (enc:=B)
 refine q0j t.links encK (step:=fun i l r=>.go (rStep (fun _=>false) i r l)) (fin:=id)
  (St:=fun i r e h=>(e 2=.t (.sc (.slice none 0 0))∧e 3=.t (.ip (tpC c1 c2 t))∧e 7=.ms 0 N 0 N 1 true∧e 8=.t x8∧e 9=.t (I (i:Nat)))∧r.length=N∧∃ mr,mr≤N∧h=[.row 1 ((r.map B).map .t) mr])
  (Ex:=fun r x e h=>(e 2=.t (.sc (.slice none 0 0))∧e 3=.t (.ip (tpC c1 c2 t))∧e 7=.ms 0 N 0 N 1 true∧e 8=.t x8)∧x=.exit 2∧∃ mr,mr≤N∧h=[.row 1 ((r.map B).map .t) mr]) (s:=r) (by omega) ?_ ?_ (by omega) ⟨he,hr,mr,hmr,rfl⟩ ?_
 ·intro i l r e h Y R hm hi hx hget hlt hw ⟨hs,hr,mr,hmr,hh⟩ hk
  subst hh
  simp only [q07] at hk
  obtain ⟨p1,p2,p3⟩:=hv l hm
  have q1:0≤l.a:=p1.1
  have q2:0≤l.b:=p2.1
  have q3:l.a.toNat < N:=by omega
  have q4:l.b.toNat < N:=by omega
  have k1:=qiL i
  have gx:(t.links.map encK)[i]? = some (lkT l):=hget
  have g1:=q1C (r:=r) (n:=l.a) (by omega)
  have g2:=q1C (r:=r) (n:=l.b) (by omega)
  rw [qiM (by omega) (by omega)] at hk
  have hl1:(r.set l.a.toNat true).length=N:=by simpa using hr
  have hl2:((r.set l.a.toNat true).set l.b.toNat true).length=N:=by simpa using hr
  have s1:=hst r l.a.toNat
  have s2:=hst (r.set l.a.toNat true) l.b.toNat
  have g3:=q1C (r:=r.set l.a.toNat true) (n:=l.b) (by rw [hl1]; exact q4)
  generalize rB (r.set l.a.toNat true) l.b=z at *
  generalize r.set l.a.toNat true=r1 at *
  generalize r1.set l.b.toNat true=r2 at *
  generalize rB r l.a=a at *
  generalize rB r l.b=b at *
  cases a with
  | true =>
   simp only [Bool.true_or,if_true] at hk
   (repeat' first|simp only [il53l0_go,il53l0b,go_sem,hs,gx,hlt,hw,k1,q1,q2,q3,q4,g1,g2,g3,s1,s2,hr,hl1,hl2,hmr]|with_reducible refine wX fun _=>?_|((with_reducible refine wY ?_ ?_); rfl)|fail)
   all_goals (refine hk _ _ ⟨?_,hl2,N,Nat.le_refl _,?_⟩ <;> simp only [go_sem,hs,hw])
  | false =>
   cases b with
   | true =>
    simp only [Bool.false_or,if_true] at hk
    (repeat' first|simp only [il53l0_go,il53l0b,go_sem,hs,gx,hlt,hw,k1,q1,q2,q3,q4,g1,g2,g3,s1,s2,hr,hl1,hl2,hmr]|with_reducible refine wX fun _=>?_|((with_reducible refine wY ?_ ?_); rfl)|fail)
    all_goals (refine hk _ _ ⟨?_,hl2,N,Nat.le_refl _,?_⟩ <;> simp only [go_sem,hs,hw])
   | false =>
    simp only [Bool.or_self,Bool.false_eq_true,if_false] at hk
    (repeat' first|simp only [il53l0_go,il53l0b,go_sem,hs,gx,hlt,hw,k1,q1,q2,q3,q4,g1,g2,hr,hmr]|with_reducible refine wX fun _=>?_|((with_reducible refine wY ?_ ?_); rfl)|fail)
    all_goals (refine hk _ _ ⟨?_,hr,mr,hmr,?_⟩ <;> simp only [go_sem,hs,hw])
 ·intro r e h Y R hlt ⟨hs,hr,mr,hmr,hh⟩ hk
  subst hh
  (repeat' first|simp only [il53l0_go,il53l0b,go_sem,hs,hlt]|with_reducible refine wX fun _=>?_|((with_reducible refine wY ?_ ?_); rfl)|fail)
  all_goals (refine hk _ _ _ ⟨?_,rfl,mr,hmr,rfl⟩; simp only [go_sem,hs,id])
 ·intro x e h ⟨h1,h2,mr,hmr,h3⟩
  subst h2 h3
  have hf:∀ (ls:List Lk) (i:Nat) (r:List Bool),foldC (ρ:=List Bool) (fun i l r=>Ctl.go (rStep (fun _=>false) i r l)) id i ls r=rRound (fun _=>false) i ls r:=by
   intro ls
   induction ls with
   | nil=>intro i r; rfl
   | cons l ls ih=>intro i r; rw [q0l (s':=rStep (fun _=>false) i r l) rfl,ih]; rfl
  rw [hf] at *
  exact hR _ mr hmr h1
theorem qiO (c1 c2:Bool) (t:Tpo) (hv:∀ l∈t.links,endsP t l) (hb:t.links.length≤24) (hn:0≤t.nodes∧t.nodes≤100) (s:Nat) (hs:(s:Int) < t.nodes) :
  ans Try.prog pol 53 [tpT c1 c2 t,I (s:Nat),.sc (.slice none 0 0)]=some (.sl true 1 ((reachL t s (fun _=>false)).map B)):=by
 obtain ⟨nodes,station,links⟩:=t
 dsimp only at hv hb hn hs
 obtain ⟨N,rfl⟩:∃ N:Nat,nodes=(N:Int):=⟨nodes.toNat,by omega⟩
 have hNn:((N:Nat):Int).toNat=N:=by omega
 have hsN:s < N:=by omega
 have hroom:1*N≤roomB:=by rw [Nat.mul_comm]; exact q0T (by omega) (by omega)
 have hbig:N≤9223372036854775807:=by omega
 have hlen:=q2A ⟨N,station,links⟩ s (fun _=>false)
 dsimp only at hlen
 rw [hNn] at hlen
 simp only [reachL,hNn] at hlen ⊢
 have hset:=map_set (enc:=B) (l:=List.replicate N false) (i:=s) (x:=true)
 simp only [List.map_replicate] at hset
 have hs0:((List.replicate N (AV.t (B false))))[s]? = some (.t (B false)):=by simp [hsN]
 have hl0:((List.replicate N false).set s true).length=N:=by simp
 generalize hr0:(List.replicate N false).set s true=r0 at *
 clear hr0
 refine q02 1000 1 il53_eq (Nat.le_of_ble_eq_true rfl) ?_
 (repeat' first|simp only [il53c,go_sem,hroom,hbig,hsN,hs0,hset,List.length_replicate]|with_reducible refine wX fun _=>?_|((with_reducible refine wY ?_ ?_); rfl)|fail)
 refine q0M N (step:=fun i r=>.go (rRound (fun _=>false) 0 links r)) (fin:=id)
  (St:=fun i r e h=>(e 2=.t (.sc (.slice none 0 0))∧e 3=.t (.ip (tpC c1 c2 ⟨N,station,links⟩))∧e 7=.ms 0 N 0 N 1 true∧e 8=.t (I (i:Nat)))∧r.length=N∧∃ mr,mr≤N∧h=[.row 1 ((r.map B).map .t) mr])
  (Ex:=fun r x e h=>e 7=.ms 0 N 0 N 1 true∧r.length=N∧x=.exit 0∧∃ mr,mr≤N∧h=[.row 1 ((r.map B).map .t) mr]) (s:=r0) (by omega) ?_ ?_ (by omega) ?_ ?_
 ·intro i r e h Y R hi hlt hw ⟨hs',hr,mr,hmr,hh⟩ hk
  subst hh
  simp only [q07] at hk
  (repeat' first|simp only [il53l1_go,il53l1b,go_sem,hs',hlt]|with_reducible refine wX fun _=>?_|((with_reducible refine wY ?_ ?_); rfl)|fail)
  refine qiN ⟨N,station,links⟩ hv hb c1 c2 N rfl (I (i:Nat)) r hr mr hmr _ _ (by omega) _ _ (by simp only [go_sem,hs']) ?_
  intro e' mr' hmr' he'
  (repeat' first|simp only [il53l1_go,il53l1b,go_sem,he',hw]|with_reducible refine wX fun _=>?_|((with_reducible refine wY ?_ ?_); rfl)|fail)
  all_goals (refine hk _ _ ⟨?_,by rw [q3F]; exact hr,mr',hmr',rfl⟩; simp only [go_sem,he',hw])
 ·intro r e h Y R hlt ⟨hs',hr,mr,hmr,hh⟩ hk
  subst hh
  (repeat' first|simp only [il53l1_go,il53l1b,go_sem,hs',hlt]|with_reducible refine wX fun _=>?_|((with_reducible refine wY ?_ ?_); rfl)|fail)
  all_goals (refine hk _ _ _ ⟨?_,hr,rfl,mr,hmr,rfl⟩; simp only [go_sem,hs'])
 ·refine ⟨?_,hl0,N,Nat.le_refl _,rfl⟩
  simp only [go_sem]
 ·intro x e h ⟨h1,hr,h2,mr,hmr,h3⟩
  have hf:∀ (n i:Nat) (r:List Bool),foldC (ρ:=List Bool) (fun (_:Nat) (_:Unit) r=>Ctl.go (rRound (fun _=>false) 0 links r)) id i (List.replicate n ()) r=rIter (fun _=>false) links n r:=by
   intro n
   induction n with
   | zero=>intro i r; rfl
   | succ n ih=>intro i r; rw [List.replicate_succ,q0l (s':=rRound (fun _=>false) 0 links r) rfl,ih]; rfl
  rw [hf] at hr h3
  subst h2 h3
  (repeat' first|simp only [il53c,go_sem,h1,hr,hmr]|with_reducible refine wX fun _=>?_|((with_reducible refine wY ?_ ?_); rfl)|fail)
end Go.Proofs.Ytnjaokhdeaeegaa
namespace Go.Proofs.Ytnjaokhdeaeegaa
open Go Go.Abs
theorem qiP (l m:Lk):decide (m.a=l.a∧m.b=l.b∨m.a=l.b∧m.b=l.a)=joins l m:=by
 unfold joins
 refine decide_eq_decide.2 ⟨?_,?_⟩
 ·rintro (⟨h1,h2⟩|⟨h1,h2⟩)
  ·exact .inl ⟨h1.symm,h2.symm⟩
  ·exact .inr ⟨h2.symm,h1.symm⟩
 ·rintro (⟨h1,h2⟩|⟨h1,h2⟩)
  ·exact .inl ⟨h1.symm,h2.symm⟩
  ·exact .inr ⟨h2.symm,h1.symm⟩
theorem qiQ {t:Tpo} {l:Lk}:∀ i,i≤t.links.length→lk3 t i l=(List.range i).all (fun k=>!joins l (lnk t k)):=by
 intro i
 induction i with
 | zero=>intro _; simp [lk3]
 | succ i ih =>
  intro hi
  have h1:=ih (by omega)
  unfold lk3 at h1 ⊢
  have e:t.links.take (i+1)=t.links.take i++[lnk t i]:=by
   rw [List.take_add_one]; simp [lnk,show i < t.links.length by omega]
  rw [e,List.all_append,h1,List.range_succ,List.all_append]
  rfl
theorem foldC_all {f:Nat→Bool}:∀ (n i:Nat),foldC (ρ:=Bool) (fun k (_:Unit) (_:Unit)=>if f k=true then Ctl.go () else Ctl.out false) (fun _=>true) i (List.replicate n ()) ()=(List.range' i n).all f:=by
 intro n
 induction n with
 | zero=>intro i; rfl
 | succ n ih =>
  intro i
  rw [List.replicate_succ,List.range'_succ,List.all_cons]
  by_cases h:f i=true
  ·rw [q0l (s':=()) (if_pos h),ih,h,Bool.true_and]
  ·rw [q0D (r:=false) (if_neg h)]
   have:f i=false:=by simpa using h
   rw [this,Bool.false_and]
theorem qiR (t:Tpo) (hb:t.links.length≤24) (c1 c2:Bool) (N:Nat) (i:Nat) (hi:i≤t.links.length) (l:Lk) (m:List Int) (mr:Nat)
  (J:Inl) (nn:Nat) (hn:100 < nn) (R:Xit→FEnv→Heap→Prop) (e:FEnv)
  (he:e 1=.t (.ip (tpC c1 c2 t))∧e 3=.ms 0 N 0 N 1 true∧e 4=.t (I (i:Nat))∧e 5=.ref 1 1 0 0∧e 6=.t (I 0))
  (hR1:lk3 t i l=true→∀ e,(e 1=.t (.ip (tpC c1 c2 t))∧e 3=.ms 0 N 0 N 1 true∧e 4=.t (I (i:Nat))∧e 5=.ref 1 1 0 0)→R (.exit 2) e [.row 1 ((m.map I).map .t) mr,.row 4 [.t (lkT l)] 1])
  (hR2:lk3 t i l=false→∀ e hh,e 2=.t (B false)→R .ret e hh) :
  wpIter 2 (some [1,3,4,5,6]) (wc Try.prog pol (ans Try.prog pol) J nn 21 il21l0) R nn e [.row 1 ((m.map I).map .t) mr,.row 4 [.t (lkT l)] 1]:=by
 refine q0M i (step:=fun k (_:Unit)=>if (!joins l (lnk t k))=true then Ctl.go () else Ctl.out false) (fin:=fun _=>true)
  (St:=fun k _ e h=>(e 1=.t (.ip (tpC c1 c2 t))∧e 3=.ms 0 N 0 N 1 true∧e 4=.t (I (i:Nat))∧e 5=.ref 1 1 0 0∧e 6=.t (I (k:Nat)))∧h=[.row 1 ((m.map I).map .t) mr,.row 4 [.t (lkT l)] 1])
  (Ex:=fun r x e h=>(r=true∧x=.exit 2∧(e 1=.t (.ip (tpC c1 c2 t))∧e 3=.ms 0 N 0 N 1 true∧e 4=.t (I (i:Nat))∧e 5=.ref 1 1 0 0)∧h=[.row 1 ((m.map I).map .t) mr,.row 4 [.t (lkT l)] 1])∨(r=false∧x=.ret∧e 2=.t (B false))) (s:=()) (by omega) ?_ ?_ (by omega) ⟨he,rfl⟩ ?_
 ·intro k _ e h Y R' hk1 hlt hw ⟨hs,hh⟩ hk
  subst hh
  have gx:(t.links.map encK)[k]? = some (lkT (lnk t k)):=by simp [lnk,show k < t.links.length by omega,encK]
  have k1:=qgp (lnk t k) l.a l.b
  rw [qiP] at k1
  generalize joins l (lnk t k)=jb at *
  generalize lnk t k=x at *
  cases jb with
  | true =>
   rw [if_neg (by simp),q0b] at hk
   (repeat' first|simp only [il21l0_go,il21l0b,go_sem,hs,gx,hlt,k1]|with_reducible refine wX fun _=>?_|((with_reducible refine wY ?_ ?_); rfl)|fail)
   all_goals (refine hk _ _ _ (.inr ⟨rfl,rfl,?_⟩); simp only [go_sem])
  | false =>
   rw [if_pos (by simp),q07] at hk
   (repeat' first|simp only [il21l0_go,il21l0b,go_sem,hs,gx,hlt,hw,k1]|with_reducible refine wX fun _=>?_|((with_reducible refine wY ?_ ?_); rfl)|fail)
   all_goals (refine hk _ _ ⟨?_,rfl⟩; simp only [go_sem,hs,hw])
 ·intro _ e h Y R' hlt ⟨hs,hh⟩ hk
  subst hh
  (repeat' first|simp only [il21l0_go,il21l0b,go_sem,hs,hlt]|with_reducible refine wX fun _=>?_|((with_reducible refine wY ?_ ?_); rfl)|fail)
  all_goals (refine hk _ _ _ (.inl ⟨rfl,rfl,?_,rfl⟩); simp only [go_sem,hs])
 ·intro x e h hx
  rw [foldC_all,← List.range_eq_range',← qiQ i hi] at hx
  rcases hx with ⟨h1,rfl,h2,rfl⟩|⟨h1,rfl,h2⟩
  ·exact hR1 h1 _ h2
  ·exact hR2 h1 _ _ h2
def rgOk (t:Tpo) (i:Nat) (l:Lk):Bool:=lkR t l && lk3 t i l
theorem q7e (t:Tpo) (i:Nat) (l:Lk):rgOk t i l=lkOk t i l:=by
 unfold rgOk lkR lkOk
 cases lk1 t l <;> cases lk2 t l <;> cases lk3 t i l <;> cases lk4 l <;> rfl
theorem qiS {t:Tpo}:∀ (ls:List Lk) (i:Nat) (m:List Int),(∀ k,k < ls.length→ls[k]? = t.links[i+k]?)→foldC (ρ:=Option (List Int)) (fun i l m=>if rgOk t i l=true then Ctl.go (dStep m l) else Ctl.out none) some i ls m=if (List.range' i ls.length).all (fun k=>lkOk t k (lnk t k))=true then some (ls.foldl dStep m) else none:=by
 intro ls
 induction ls with
 | nil=>intro i m _; rfl
 | cons l ls ih =>
  intro i m h
  have h0:lnk t i=l:=by
   have:=h 0 (by simp)
   simp only [List.getElem?_cons_zero,Nat.add_zero] at this
   rw [lnk,← this]; rfl
  have ih:=ih (i+1) (dStep m l) (fun k hk=>by
   have:=h (k+1) (by simpa using hk)
   rw [List.getElem?_cons_succ] at this
   rw [this]; congr 1; omega)
  rw [List.length_cons,List.range'_succ,List.all_cons,h0,List.foldl_cons]
  by_cases q:rgOk t i l=true
  ·rw [q0l (s':=dStep m l) (if_pos q),ih]
   rw [q7e] at q
   rw [q,Bool.true_and]
  ·rw [q0D (r:=none) (if_neg q)]
   rw [q7e] at q
   have q:lkOk t i l=false:=by simpa using q
   rw [q,Bool.false_and]
   rfl
theorem qiT (t:Tpo) (hz:(t.station.length:Int)=t.nodes) (hb:t.links.length≤24) (c1 c2:Bool) (N:Nat) (hN:(N:Int)=t.nodes) (nn dd:Nat) (hn:100 < nn) (R:Xit→FEnv→Heap→Prop) (e:FEnv)
  (he:e 1=.t (.ip (tpC c1 c2 t))∧e 3=.ms 0 N 0 N 1 true∧e 4=.t (I 0))
  (hR1:soundL t=true→∀ e mr,mr≤N→(e 1=.t (.ip (tpC c1 c2 t))∧e 3=.ms 0 N 0 N 1 true)→R (.exit 0) e [.row 1 (((t.links.foldl dStep (List.replicate N 0)).map I).map .t) mr])
  (hR2:soundL t=false→∀ e hh,e 2=.t (B false)→R .ret e hh) :
  wpIter 1 (some [1,3,4]) (wc Try.prog pol (ans Try.prog pol) (inl Try.prog pol (ans Try.prog pol) nn dd) nn 21 il21l1) R nn e [.row 1 (((List.replicate N (0:Int)).map I).map .t) 0]:=by
 refine q0j t.links encK (step:=fun i l m=>if rgOk t i l=true then Ctl.go (dStep m l) else Ctl.out none) (fin:=some)
  (St:=fun i m e h=>(e 1=.t (.ip (tpC c1 c2 t))∧e 3=.ms 0 N 0 N 1 true∧e 4=.t (I (i:Nat)))∧m.length=N∧(∀ x∈m,0≤x∧x≤2*(i:Int))∧∃ mr,mr≤N∧h=[.row 1 ((m.map I).map .t) mr])
  (Ex:=fun r x e h=>(∃ m,r=some m∧x=.exit 0∧(e 1=.t (.ip (tpC c1 c2 t))∧e 3=.ms 0 N 0 N 1 true)∧∃ mr,mr≤N∧h=[.row 1 ((m.map I).map .t) mr])∨(r=none∧x=.ret∧e 2=.t (B false))) (s:=List.replicate N 0) (by omega) ?_ ?_ (by omega) ⟨he,by simp,fun x hx=>by have:=(List.mem_replicate.1 hx).2; omega,0,by omega,rfl⟩ ?_
 ·intro i l m e h Y R' hm hi hx hget hlt hw ⟨hs,hl,hbd,mr,hmr,hh⟩ hk
  subst hh
  have k1:=qgq c1 c2 t l hz
  have gx:(t.links.map encK)[i]? = some (lkT l):=hget
  cases hlr:lkR t l with
  | false =>
   rw [hlr] at k1
   rw [if_neg (by simp [rgOk,hlr]),q0b] at hk
   (repeat' first|simp only [il21l1_go,il21l1b,go_sem,hs,gx,hlt,k1,hmr]|with_reducible refine wX fun _=>?_|((with_reducible refine wY ?_ ?_); rfl)|fail)
   all_goals (refine hk _ _ _ (.inr ⟨rfl,rfl,?_⟩); simp only [go_sem])
  | true =>
   rw [hlr] at k1
   (repeat' first|simp only [il21l1_go,il21l1b,go_sem,hs,gx,hlt,k1,hmr]|with_reducible refine wX fun _=>?_|((with_reducible refine wY ?_ ?_); rfl)|fail)
   refine qiR t hb c1 c2 N i (by omega) l m mr _ _ hn _ _ (by simp only [go_sem,hs]) ?_ ?_
   ·intro h3 e1 he1
    rw [if_pos (by simp [rgOk,hlr,h3]),q07] at hk
    have hlk1:lk1 t l=true:=by simp only [lkR,Bool.and_eq_true] at hlr; exact hlr.1
    obtain ⟨p1,p2,p3⟩:=of_decide_eq_true hlk1
    have q1:0≤l.a:=p1.1
    have q2:0≤l.b:=p2.1
    have q3:l.a.toNat < N:=by have:=p1.2; omega
    have q4:l.b.toNat < N:=by have:=p2.2; omega
    have g1:=q1D (m:=m) (n:=l.a) (by omega)
    have b1:=iA_bd (n:=l.a) hbd (by omega)
    have s1:=map_set (enc:=I) (l:=m) (i:=l.a.toNat) (x:=iA m l.a+1)
    have bd1:=q2B (i:=l.a.toNat) (y:=iA m l.a+1) hbd (by omega)
    have w1:IntKind.i64.wrap (iA m l.a+1)=iA m l.a+1:=q00 (by omega) (by omega)
    have hl1:(m.set l.a.toNat (iA m l.a+1)).length=N:=by simpa using hl
    simp only [dStep] at hk
    generalize hm1:m.set l.a.toNat (iA m l.a+1)=m1 at *
    have g2:=q1D (m:=m1) (n:=l.b) (by omega)
    have b2:=iA_bd (n:=l.b) bd1 (by omega)
    have s2:=map_set (enc:=I) (l:=m1) (i:=l.b.toNat) (x:=iA m1 l.b+1)
    have bd2:=q2B (i:=l.b.toNat) (y:=iA m1 l.b+1) bd1 (by omega)
    have w2:IntKind.i64.wrap (iA m1 l.b+1)=iA m1 l.b+1:=q00 (by omega) (by omega)
    have hl2:(m1.set l.b.toNat (iA m1 l.b+1)).length=N:=by simpa using hl1
    generalize m1.set l.b.toNat (iA m1 l.b+1)=m2 at *
    generalize iA m1 l.b=z at *
    generalize iA m l.a=v at *
    (repeat' first|simp only [il21l1_go,il21l1b,go_sem,he1,hlt,hw,q1,q2,q3,q4,g1,s1,w1,g2,s2,w2,hl,hl1,hl2,hmr]|with_reducible refine wX fun _=>?_|((with_reducible refine wY ?_ ?_); rfl)|fail)
    all_goals (refine hk _ _ ⟨?_,hl2,fun x hx=>by have:=bd2 x hx; omega,N,Nat.le_refl _,?_⟩ <;> simp only [go_sem,he1,hw])
   ·intro h3 e1 hh he1
    rw [if_neg (by simp [rgOk,h3]),q0b] at hk
    (repeat' first|simp only [il21l1_go,il21l1b,go_sem,he1]|with_reducible refine wX fun _=>?_|((with_reducible refine wY ?_ ?_); rfl)|fail)
    all_goals (refine hk _ _ _ (.inr ⟨rfl,rfl,?_⟩); simp only [go_sem,he1])
 ·intro m e h Y R' hlt ⟨hs,hl,hbd,mr,hmr,hh⟩ hk
  subst hh
  (repeat' first|simp only [il21l1_go,il21l1b,go_sem,hs,hlt]|with_reducible refine wX fun _=>?_|((with_reducible refine wY ?_ ?_); rfl)|fail)
  all_goals (refine hk _ _ _ (.inl ⟨m,rfl,rfl,?_,mr,hmr,rfl⟩); simp only [go_sem,hs])
 ·intro x e h hx
  rw [qiS t.links 0 _ (fun k _=>by rw [Nat.zero_add]),← List.range_eq_range'] at hx
  change (∃ m,(if soundL t=true then _ else _)=some m∧_)∨_ at hx
  rcases hx with ⟨m,h1,rfl,h2,mr,hmr,rfl⟩|⟨h1,rfl,h2⟩
  ·by_cases q:soundL t=true
   ·rw [if_pos q] at h1
    obtain rfl:=Option.some.inj h1
    exact hR1 q _ mr hmr h2
   ·rw [if_neg q] at h1; cases h1
  ·refine hR2 ?_ _ _ h2
   cases q:soundL t with
   | false=>rfl
   | true =>
    have h1:(if soundL t=true then some (t.links.foldl dStep (List.replicate N 0)) else none)=none:=h1
    rw [if_pos q] at h1; cases h1
def rgN (t:Tpo) (m:List Int) (rl:List Bool) (n:Nat):Bool:=rl[n]?.getD false && !(stA t n && (decide (iA m (n:Nat) < 1) || decide (2 < iA m (n:Nat))))
theorem qiU (t:Tpo) (hz:(t.station.length:Int)=t.nodes) (c1 c2:Bool) (N:Nat) (hN:(N:Int)=t.nodes) (h12:N≤12) (m:List Int) (hm:m.length=N) (rl:List Bool) (hrl:rl.length=N) (mr:Nat) (hmr:mr≤N) (J:Inl) (nn:Nat) (hn:100 < nn) (R:Xit→FEnv→Heap→Prop) (e:FEnv)
  (he:e 1=.t (.ip (tpC c1 c2 t))∧e 3=.ms 0 N 0 N 1 true∧e 7=.t (.sl true 1 (rl.map B))∧e 8=.t (I 0))
  (hR1:(List.range N).all (rgN t m rl)=true→∀ e hh,R (.exit 4) e hh)
  (hR2:(List.range N).all (rgN t m rl)=false→∀ e hh,e 2=.t (B false)→R .ret e hh) :
  wpIter 1 (some [1,3,7,8]) (wc Try.prog pol (ans Try.prog pol) J nn 21 il21l2) R nn e [.row 1 ((m.map I).map .t) mr]:=by
 refine q0M N (step:=fun n (_:Unit)=>if rgN t m rl n=true then Ctl.go () else Ctl.out false) (fin:=fun _=>true)
  (St:=fun n _ e h=>(e 1=.t (.ip (tpC c1 c2 t))∧e 3=.ms 0 N 0 N 1 true∧e 7=.t (.sl true 1 (rl.map B))∧e 8=.t (I (n:Nat)))∧h=[.row 1 ((m.map I).map .t) mr])
  (Ex:=fun r x e h=>(r=true∧x=.exit 4)∨(r=false∧x=.ret∧e 2=.t (B false))) (s:=()) (by omega) ?_ ?_ (by omega) ⟨he,rfl⟩ ?_
 ·intro n _ e h Y R' hi hlt hw ⟨hs,hh⟩ hk
  subst hh
  rw [hN] at hlt
  have gr:(rl.map B)[n]? = some (B (rl[n]?.getD false)):=by simp [show n < rl.length by omega]
  have gs:(t.station.map B)[n]? = some (B (stA t n)):=by simp [stA,show n < t.station.length by omega]
  have gm:=q1D (m:=m) (n:=(n:Nat)) (by omega)
  rw [Int.toNat_natCast] at gm
  unfold rgN at hk
  generalize rl[n]?.getD false=b1 at *
  generalize iA m (n:Nat)=v at *
  cases b1 with
  | false =>
   rw [if_neg (by simp),q0b] at hk
   (repeat' first|simp only [il21l2_go,il21l2b,go_sem,hs,gr,hlt]|with_reducible refine wX fun _=>?_|((with_reducible refine wY ?_ ?_); rfl)|fail)
   all_goals (refine hk _ _ _ (.inr ⟨rfl,rfl,?_⟩); simp only [go_sem])
  | true =>
   cases hst:stA t n with
   | false =>
    rw [hst] at gs hk
    rw [if_pos (by simp),q07] at hk
    (repeat' first|simp only [il21l2_go,il21l2b,go_sem,hs,gr,gs,hlt,hw]|with_reducible refine wX fun _=>?_|((with_reducible refine wY ?_ ?_); rfl)|fail)
    all_goals (refine hk _ _ ⟨?_,rfl⟩; simp only [go_sem,hs,hw])
   | true =>
    rw [hst] at gs hk
    by_cases d1:v < 1
    ·have d1':decide (v < 1)=true:=decide_eq_true d1
     rw [if_neg (by simp [d1']),q0b] at hk
     (repeat' first|simp only [il21l2_go,il21l2b,go_sem,hs,gr,gs,gm,hlt,hi,hm,hmr,d1']|with_reducible refine wX fun _=>?_|((with_reducible refine wY ?_ ?_); rfl)|fail)
     all_goals (refine hk _ _ _ (.inr ⟨rfl,rfl,?_⟩); simp only [go_sem])
    ·have d1':decide (v < 1)=false:=decide_eq_false d1
     by_cases d2:2 < v
     ·have d2':decide (2 < v)=true:=decide_eq_true d2
      rw [if_neg (by simp [d1',d2']),q0b] at hk
      (repeat' first|simp only [il21l2_go,il21l2b,go_sem,hs,gr,gs,gm,hlt,hi,hm,hmr,d1',d2']|with_reducible refine wX fun _=>?_|((with_reducible refine wY ?_ ?_); rfl)|fail)
      all_goals (refine hk _ _ _ (.inr ⟨rfl,rfl,?_⟩); simp only [go_sem])
     ·have d2':decide (2 < v)=false:=decide_eq_false d2
      rw [if_pos (by simp [d1',d2']),q07] at hk
      (repeat' first|simp only [il21l2_go,il21l2b,go_sem,hs,gr,gs,gm,hlt,hw,hi,hm,hmr,d1',d2']|with_reducible refine wX fun _=>?_|((with_reducible refine wY ?_ ?_); rfl)|fail)
      all_goals (refine hk _ _ ⟨?_,rfl⟩; simp only [go_sem,hs,hw])
 ·intro _ e h Y R' hlt ⟨hs,hh⟩ hk
  subst hh
  have hlt:decide (((N:Nat):Int) < t.nodes)=false:=by rw [← hN]; exact hlt
  (repeat' first|simp only [il21l2_go,il21l2b,go_sem,hs,hlt]|with_reducible refine wX fun _=>?_|((with_reducible refine wY ?_ ?_); rfl)|fail)
  all_goals exact hk _ _ _ (.inl ⟨rfl,rfl⟩)
 ·intro x e h hx
  rw [foldC_all,← List.range_eq_range'] at hx
  rcases hx with ⟨h1,rfl⟩|⟨h1,rfl,h2⟩
  ·exact hR1 h1 _ _
  ·exact hR2 h1 _ _ h2
theorem qiV {t:Tpo} {N:Nat} {rl:List Bool} (hz:t.station.length=N) (hrl:rl.length=N):(List.range N).all (rgN t (degs t) rl)=(degOk t && !decide (false∈rl)):=by
 rw [Bool.eq_iff_iff]
 simp only [degOk,hz,List.all_eq_true,List.mem_range,Bool.and_eq_true,rgN,Bool.not_eq_true',decide_eq_false_iff_not,Bool.or_eq_true,decide_eq_true_eq,Bool.and_eq_false_iff,Bool.or_eq_false_iff]
 constructor
 ·intro h
  refine ⟨fun n hn=>?_,fun hm=>?_⟩
  ·rcases (h n hn).2 with h1|⟨h1,h2⟩
   ·exact .inl h1
   ·exact .inr (by omega)
  ·obtain ⟨n,hn,hv⟩:=List.getElem_of_mem hm
   have:=(h n (by omega)).1
   rw [List.getElem?_eq_getElem hn,hv] at this
   cases this
 ·rintro ⟨h1,h2⟩ n hn
  refine ⟨?_,?_⟩
  ·rw [List.getElem?_eq_getElem (by omega)]
   cases hv:rl[n]'(by omega) with
   | true=>rfl
   | false=>exact absurd (hv ▸ List.getElem_mem _) h2
  ·rcases h1 n hn with h|h
   ·exact .inl h
   ·exact .inr (by omega)
theorem qiW (c1 c2:Bool) (t:Tpo):ans Try.prog pol 21 [tpT c1 c2 t]=some (B (okT t)):=by
 by_cases h1:t.nodes < 2
 ·have e1:=decide_eq_true h1
  rw [show okT t=false by rw [okT,decide_eq_false (fun h=>by have:=h.1.1; omega)]; rfl]
  refine q02 1 1 il21_eq (Nat.le_of_ble_eq_true rfl) ?_
  (repeat' first|simp only [il21c,go_sem,e1]|with_reducible refine wX fun _=>?_|((with_reducible refine wY ?_ ?_); rfl)|fail)
 have e1:=decide_eq_false h1
 by_cases h2:12 < t.nodes
 ·have e2:=decide_eq_true h2
  rw [show okT t=false by rw [okT,decide_eq_false (fun h=>by have:=h.1.2; omega)]; rfl]
  refine q02 1 1 il21_eq (Nat.le_of_ble_eq_true rfl) ?_
  (repeat' first|simp only [il21c,go_sem,e1,e2]|with_reducible refine wX fun _=>?_|((with_reducible refine wY ?_ ?_); rfl)|fail)
 have e2:=decide_eq_false h2
 by_cases h3:(t.station.length:Int)=t.nodes
 rotate_left
 ·have e3:=decide_eq_false h3
  rw [show okT t=false by rw [okT,decide_eq_false (fun h=>h3 h.2.1)]; rfl]
  refine q02 1 1 il21_eq (Nat.le_of_ble_eq_true rfl) ?_
  (repeat' first|simp only [il21c,go_sem,e1,e2,e3]|with_reducible refine wX fun _=>?_|((with_reducible refine wY ?_ ?_); rfl)|fail)
 have e3:=decide_eq_true h3
 by_cases h4:(24:Int) < (t.links.length:Nat)
 ·have e4:=decide_eq_true h4
  rw [show okT t=false by rw [okT,decide_eq_false (fun h=>by have:=h.2.2; omega)]; rfl]
  refine q02 1 1 il21_eq (Nat.le_of_ble_eq_true rfl) ?_
  (repeat' first|simp only [il21c,go_sem,e1,e2,e3,e4]|with_reducible refine wX fun _=>?_|((with_reducible refine wY ?_ ?_); rfl)|fail)
 have e4:=decide_eq_false h4
 have hz:sizeP t:=⟨⟨by omega,by omega⟩,h3,by omega⟩
 obtain ⟨N,hN⟩:∃ N:Nat,(N:Int)=t.nodes:=⟨t.nodes.toNat,by omega⟩
 have hNn:t.nodes.toNat=N:=by omega
 have hroom:8*N≤roomB:=by rw [Nat.mul_comm]; exact q0T (by omega) (by omega)
 have hbig:N≤9223372036854775807:=by omega
 have hpos:0≤t.nodes:=by omega
 have hdeg:t.links.foldl dStep (List.replicate N 0)=degs t:=by rw [degs,hNn]
 have hdl:=q6d t
 rw [hNn] at hdl
 have hrl:=q2A t 0 (fun _=>false)
 rw [hNn] at hrl
 have ho:okT t=(soundL t && (degOk t && !(decide (false∈reachL t 0 (fun _=>false))))):=by rw [okT,decide_eq_true hz,Bool.true_and]
 have k2:soundL t=true→ans Try.prog pol 53 [tpT c1 c2 t,I 0,.sc (.slice none 0 0)]=some (.sl true 1 ((reachL t 0 (fun _=>false)).map B)):=fun hs=>qiO c1 c2 t (q6c hs) (by omega) (by omega) 0 (by omega)
 rw [← qiV (by omega) hrl] at ho
 generalize reachL t 0 (fun _=>false)=rl at *
 have hmap:List.replicate N (AV.t (T.sc (Value.int IntKind.i64 0)))=((List.replicate N (0:Int)).map I).map .t:=by simp
 obtain ⟨nn,hn⟩:∃ nn,100 < nn:=⟨101,by omega⟩
 refine q02 nn 1 il21_eq (Nat.le_of_ble_eq_true rfl) ?_
 (repeat' first|simp only [il21c,go_sem,e1,e2,e3,e4,hroom,hbig,hpos,hNn]|with_reducible refine wX fun _=>?_|((with_reducible refine wY ?_ ?_); rfl)|fail)
 rw [hmap]
 refine qiT t h3 (by omega) c1 c2 N hN _ _ hn _ _ (by simp only [go_sem]) ?_ ?_
 ·intro hs e mr hmr he
  rw [hdeg]
  have k2:=k2 hs
  rw [hs,Bool.true_and] at ho
  (repeat' first|simp only [il21c,go_sem,he,k2]|with_reducible refine wX fun _=>?_|((with_reducible refine wY ?_ ?_); rfl)|fail)
  refine qiU t h3 c1 c2 N hN (by omega) (degs t) hdl rl hrl mr hmr _ _ hn _ _ (by simp only [go_sem,he]) ?_ ?_
  ·intro h5 e hh
   rw [ho,h5]
   (repeat' first|simp only [il21c,go_sem]|with_reducible refine wX fun _=>?_|((with_reducible refine wY ?_ ?_); rfl)|fail)
  ·intro h5 e hh he2
   rw [ho,h5]
   (repeat' first|simp only [il21c,go_sem,he2]|with_reducible refine wX fun _=>?_|((with_reducible refine wY ?_ ?_); rfl)|fail)
 ·intro hs e hh he2
  rw [ho,hs,Bool.false_and]
  (repeat' first|simp only [il21c,go_sem,he2]|with_reducible refine wX fun _=>?_|((with_reducible refine wY ?_ ?_); rfl)|fail)
end Go.Proofs.Ytnjaokhdeaeegaa
namespace Go.Proofs.Ytnjaokhdeaeegaa
open Go Go.Abs
def few7 (t:Tpo):Tpo:=⟨t.nodes,t.station.take 20,t.links.take 16⟩
theorem qiX (c1 c2:Bool) (t:Tpo):∃ d1 d2,ans Try.prog pol 11 [tpT c1 c2 t]=some (tpT d1 d2 (few7 t)):=by
 obtain ⟨nodes,st,lk⟩:=t
 simp only [few7,tpT,tpC]
 have m20:(if 20 < ((st.length:Nat):Int) then (20:Int) else ((st.length:Nat):Int))=((min 20 st.length:Nat):Int):=by split <;> omega
 have m30:(if 16 < ((lk.length:Nat):Int) then (16:Int) else ((lk.length:Nat):Int))=((min 16 lk.length:Nat):Int):=by split <;> omega
 have t20:List.take (min 20 st.length) (st.map B)=(st.take 20).map B:=by rw [List.map_take,List.take_eq_take_min (i:=20) (l:=st.map B),List.length_map]
 have t30:List.take (min 16 lk.length) (lk.map encK)=(lk.take 16).map encK:=by rw [List.map_take,List.take_eq_take_min (i:=16) (l:=lk.map encK),List.length_map]
 have q20:min 20 st.length≤st.length:=Nat.min_le_right _ _
 have q30:min 16 lk.length≤lk.length:=Nat.min_le_right _ _
 generalize hA:(st.take 20).map B=A at *
 generalize hL:(lk.take 16).map encK=L at *
 generalize hb1:decide (min 20 st.length=st.length)=b1 at *
 generalize hb2:decide (min 16 lk.length=lk.length)=b2 at *
 refine ⟨c1 && b1,c2 && b2,?_⟩
 refine q02 1 1 il11_eq (Nat.le_of_ble_eq_true rfl) ?_
 (repeat' first|simp only [il11c,go_sem,m20,m30,t20,t30,q20,q30,hb1,hb2]|with_reducible refine wX fun _=>?_|((with_reducible refine wY ?_ ?_); rfl)|fail)
def wantE (t:Tpo) (a b:Int):Int:=if okT t=true then (if endP t a b then 0 else 2) else 260
theorem qiY (c1 c2:Bool) (t:Tpo) (a b:Int):ans Try.prog pol 13 [tpT c1 c2 t,I a,I b]=some (I (wantE t a b)):=by
 have kR:=qiW c1 c2 t
 unfold wantE
 have tT:List.take 3 (tpC c1 c2 t)=tpC c1 c2 t:=rfl
 cases hok:okT t with
 | false =>
  rw [hok] at kR
  rw [if_neg (by simp)]
  refine q02 1 1 il13_eq (Nat.le_of_ble_eq_true rfl) ?_
  (repeat' first|simp only [il13c,go_sem,kR,tT]|with_reducible refine wX fun _=>?_|((with_reducible refine wY ?_ ?_); rfl)|fail)
 | true =>
  rw [hok] at kR
  rw [if_pos rfl]
  by_cases d1:a < 0
  ·have e1:=decide_eq_true d1
   rw [if_neg (fun k=>by have:=k.1.1; omega)]
   refine q02 1 1 il13_eq (Nat.le_of_ble_eq_true rfl) ?_
   (repeat' first|simp only [il13c,go_sem,kR,tT,e1]|with_reducible refine wX fun _=>?_|((with_reducible refine wY ?_ ?_); rfl)|fail)
  ·have e1:=decide_eq_false d1
   by_cases d2:t.nodes≤a
   ·have e2:=decide_eq_true d2
    rw [if_neg (fun k=>by have:=k.1.2; omega)]
    refine q02 1 1 il13_eq (Nat.le_of_ble_eq_true rfl) ?_
    (repeat' first|simp only [il13c,go_sem,kR,tT,e1,e2]|with_reducible refine wX fun _=>?_|((with_reducible refine wY ?_ ?_); rfl)|fail)
   ·have e2:=decide_eq_false d2
    by_cases d3:b < 0
    ·have e3:=decide_eq_true d3
     rw [if_neg (fun k=>by have:=k.2.1.1; omega)]
     refine q02 1 1 il13_eq (Nat.le_of_ble_eq_true rfl) ?_
     (repeat' first|simp only [il13c,go_sem,kR,tT,e1,e2,e3]|with_reducible refine wX fun _=>?_|((with_reducible refine wY ?_ ?_); rfl)|fail)
    ·have e3:=decide_eq_false d3
     by_cases d4:t.nodes≤b
     ·have e4:=decide_eq_true d4
      rw [if_neg (fun k=>by have:=k.2.1.2; omega)]
      refine q02 1 1 il13_eq (Nat.le_of_ble_eq_true rfl) ?_
      (repeat' first|simp only [il13c,go_sem,kR,tT,e1,e2,e3,e4]|with_reducible refine wX fun _=>?_|((with_reducible refine wY ?_ ?_); rfl)|fail)
     ·have e4:=decide_eq_false d4
      by_cases d5:a=b
      ·have e5:=decide_eq_true d5
       rw [if_neg (fun k=>k.2.2 d5)]
       refine q02 1 1 il13_eq (Nat.le_of_ble_eq_true rfl) ?_
       (repeat' first|simp only [il13c,go_sem,kR,tT,e1,e2,e3,e4,e5]|with_reducible refine wX fun _=>?_|((with_reducible refine wY ?_ ?_); rfl)|fail)
      ·have e5:=decide_eq_false d5
       rw [if_pos ⟨⟨by omega,by omega⟩,⟨by omega,by omega⟩,d5⟩]
       refine q02 1 1 il13_eq (Nat.le_of_ble_eq_true rfl) ?_
       (repeat' first|simp only [il13c,go_sem,kR,tT,e1,e2,e3,e4,e5]|with_reducible refine wX fun _=>?_|((with_reducible refine wY ?_ ?_); rfl)|fail)
end Go.Proofs.Ytnjaokhdeaeegaa
namespace Go.Proofs.Ytnjaokhdeaeegaa
open Go Go.Abs
theorem qiZ (c1 c2:Bool) (t:Tpo) (a b:Int):ans Try.prog pol 4 [tpT c1 c2 t,I a,I b]=some (B true):=by
 have kW:=qiK
 obtain ⟨x1,x2,kF⟩:=qiX c1 c2 t
 generalize few7 t=u at *
 have tT:∀ (c1 c2:Bool) (t:Tpo),List.take 3 (tpC c1 c2 t)=tpC c1 c2 t:=fun _ _ _=>rfl
 have kw:=qiY x1 x2 u a b
 refine q02 10 1 il4_eq (Nat.le_of_ble_eq_true rfl) ?_
 unfold wantE at kw
 cases hok:okT u with
 | false =>
  rw [hok,if_neg (by simp)] at kw
  have kl:=qij x1 x2 u a b hok
  (repeat' first|simp only [il4c,go_sem,kW,kF,tT,kl,kw]|with_reducible refine wX fun _=>?_|((with_reducible refine wY ?_ ?_); rfl)|fail)
 | true =>
  rw [hok,if_pos rfl] at kw
  by_cases he:endP u a b
  ·rw [if_pos he] at kw
   have hab:=he
   obtain ⟨⟨a1,a2⟩,⟨b1,b2⟩,hne⟩:=hab
   obtain ⟨a',rfl⟩:∃ a':Nat,a=a':=⟨a.toNat,by omega⟩
   obtain ⟨b',rfl⟩:∃ b':Nat,b=b':=⟨b.toNat,by omega⟩
   have kl:=q41 x1 x2 u hok a' b' he
   have kR:=qi1 x1 x2 u hok a' b'
   have hrt:rtP u (routesL (grT u) (stA u) a' b'):=fun r hr=>⟨(q12 hok hr).1.1,(q12 hok hr).1.2.1,(q12 hok hr).2⟩
   have hfew:=q24 hok (stA u) a' b'
   have h24:(24:Nat) ^ 8=110075314176:=by decide
   have kP:=qhm x1 x2 false u hok (routesL (grT u) (stA u) a' b') hrt (by omega)
   have hpe:=qi6 hok (a:=a') (b:=b') (routesL (grT u) (stA u) a' b') (fun r hr=>(q12 hok hr).1)
   rw [hpe] at kP
   have hsp:=q9w (G:=grT u) (l:=routesL (grT u) (stA u) a' b') (fun r hr=>(hrt r hr).1)
   rcases hsp with ⟨hz,_⟩|⟨x,y,hz,hx,hy,_⟩
   ·rw [hz] at kl kP
    generalize routesL (grT u) (stA u) a' b'=l at *
    have kl:ans Try.prog pol 18 [tpT x1 x2 u,I ((a':Nat):Int),I ((b':Nat):Int)]=some (.tup [nilT,nilT,I 4]):=kl
    have kP:ans Try.prog pol 19 [tpT x1 x2 u,.sl false 1 (l.map rtT)]=some (.tup [nilT,nilT]):=kP
    (repeat' first|simp only [il4c,go_sem,kW,kF,tT,kl,kw,kR,kP]|with_reducible refine wX fun _=>?_|((with_reducible refine wY ?_ ?_); rfl)|fail)
   ·rw [hz] at kl kP
    obtain ⟨hx0,_,hx8⟩:=hrt x hx
    obtain ⟨hy0,_,hy8⟩:=hrt y hy
    generalize routesL (grT u) (stA u) a' b'=l at *
    have kl:ans Try.prog pol 18 [tpT x1 x2 u,I ((a':Nat):Int),I ((b':Nat):Int)]=some (.tup [rgT x,rgT y,I 0]):=by rw [kl,pairA,if_neg hx0]
    have kP:ans Try.prog pol 19 [tpT x1 x2 u,.sl false 1 (l.map rtT)]=some (.tup [rtT x,rtT y]):=by rw [kP,q1G hx0,q1G hy0]
    have lx:=q0e x
    have hl0:x.length≠0:=fun k=>hx0 (List.eq_nil_of_length_eq_zero k)
    have e3:decide (((x.length:Nat):Int)=0)=false:=decide_eq_false (by omega)
    have q1:=q1L false (oneB x) x x (by omega)
    have q2:=q1L false (oneB y) y y (by omega)
    rw [decide_eq_true rfl] at q1 q2
    (repeat' first|simp only [il4c,go_sem,kW,kF,tT,kl,kw,kR,kP,lx,e3,q1,q2]|with_reducible refine wX fun _=>?_|((with_reducible refine wY ?_ ?_); rfl)|fail)
  ·rw [if_neg he] at kw
   have kl:=qik x1 x2 u a b hok he
   (repeat' first|simp only [il4c,go_sem,kW,kF,tT,kl,kw]|with_reducible refine wX fun _=>?_|((with_reducible refine wY ?_ ?_); rfl)|fail)
end Go.Proofs.Ytnjaokhdeaeegaa
namespace Go.Proofs.Ytnjaokhdeaeegaa
open Go Go.Abs
theorem qj0 {x:T} (f:FitE Try.prog 4 x):∃ a,x=B a:=by
 obtain ⟨b0,rfl⟩:=q3k (l:=.bool) (by kernel_rfl) (by kernel_rfl) f
 exact ⟨b0,rfl⟩
theorem bools {xs:List T} (h:∀ y∈xs,FitE Try.prog 4 y):∃ l,xs=List.map B l:=q5W (fun y hy=>qj0 (h y hy))
theorem qj1 {x:T} (f:FitE Try.prog 94 x):∃ a,x=encK a:=by
 obtain ⟨c,rfl,g⟩:=q5p (ls:=[.int .i64,.int .i64,.int .i64,.int .i64]) (by kernel_rfl) (by kernel_rfl) f
 obtain ⟨y0,q0,rfl,v0,g⟩:=q16 g
 obtain ⟨y1,q1,rfl,v1,g⟩:=q16 g
 obtain ⟨y2,q2,rfl,v2,g⟩:=q16 g
 obtain ⟨y3,q3,rfl,v3,g⟩:=q16 g
 obtain rfl:=q3j g
 obtain ⟨n0,rfl,w0⟩:=v0
 obtain ⟨n1,rfl,w1⟩:=v1
 obtain ⟨n2,rfl,w2⟩:=v2
 obtain ⟨n3,rfl,w3⟩:=v3
 exact ⟨⟨n0,n1,n2,n3⟩,rfl⟩
theorem links {xs:List T} (h:∀ y∈xs,FitE Try.prog 94 y):∃ l,xs=List.map encK l:=q5W (fun y hy=>qj1 (h y hy))
end Go.Proofs.Ytnjaokhdeaeegaa
