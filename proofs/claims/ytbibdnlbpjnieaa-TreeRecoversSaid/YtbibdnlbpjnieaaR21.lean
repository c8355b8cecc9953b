/- Part 21 of the proof of TreeRecovers. -/
import Derived.Test.YtbibdnlbpjnieaaR20
set_option linter.all false
set_option maxRecDepth 100000
set_option maxHeartbeats 4000000
namespace Go.Proofs.Ytbibdnlbpjnieaa
open Go Go.Abs
def lt2 (a b c d:Int):Prop:=a < c∨a=c∧b < d
instance (a b c d:Int):Decidable (lt2 a b c d):=inferInstanceAs (Decidable (_∨_))
theorem cmp_lt2 (a b c d:Int):decide (cmpL [a,b,0,0,0,0] [c,d,0,0,0,0] < 0)=decide (lt2 a b c d):=by
 congr 1
 rw [eq_iff_iff]
 simp only [cmpL,cmp3,lt2]
 by_cases h1:a < c
 ·simp [h1]
 ·by_cases h2:c < a
  ·simp [h1,h2]; omega
  ·have:a=c:=by omega
   subst this
   by_cases h3:b < d
   ·simp [h3]
   ·by_cases h4:d < b
    ·simp [h3,h4]
    ·have:b=d:=by omega
     subst this; simp
theorem better_ans (a b c d:Int):ans Try.prog pol 100 [.agg [I a,I b],.agg [I c,I d]]=some (B (decide (lt2 a b c d))):=by
 have k1:=compare_ans a b 0 0 0 0 c d 0 0 0 0
 have k2:=cmp_lt2 a b c d
 refine ans_go 1 1 il100_eq (Nat.le_of_ble_eq_true rfl) ?_
 (repeat' first|simp only [il100c,go_sem,k1,k2]|(with_reducible first|apply wD|apply wT|(apply wM; intro)|(apply wL; intro))|((with_reducible first|refine wA ?_ ?_|refine wE ?_); rfl))
structure Tp where
 rp:Int
 rn:Int
 cost:Int
 via:Int
 age:Int
abbrev sbC (c1 c2 c3:Bool) (b:Br) (t:Tp):List T:=[I b.p,I b.n,.sl c1 1 (b.ports.map I),.sl c2 1 (b.costs.map I),.sl c3 8 (b.heard.map encH),I t.rp,I t.rn,I t.cost,I t.via,I t.age]
abbrev sbT (c1 c2 c3:Bool) (b:Br) (t:Tp):T:=.agg (sbC c1 c2 c3 b t)
abbrev rkT (h:Hd):T:=.agg [I h.a,I h.b,I h.c,I h.d,I h.e,I h.f]
def ofr (b:Br) (i:Nat):Hd:=⟨(hrd b i).is,(hrd b i).a,(hrd b i).b,(hrd b i).c+cst b i,(hrd b i).d,(hrd b i).e,(hrd b i).f,(hrd b i).g⟩
def leads (b:Br) (i:Nat):Bool:=(hrd b i).is && !decide (1048576 < (ofr b i).c) && decide (lt2 (hrd b i).a (hrd b i).b b.p b.n)
theorem offers_ans (c1 c2 c3:Bool) (b:Br) (t:Tp):ans Try.prog pol 75 [sbT c1 c2 c3 b t]=some (.fn (.func 99) [] [.ip (sbC c1 c2 c3 b t)]):=by
 refine ans_go 1 1 il75_eq (Nat.le_of_ble_eq_true rfl) ?_
 (repeat' first|simp only [il75c,go_sem]|(with_reducible first|apply wD|apply wT|(apply wM; intro)|(apply wL; intro))|((with_reducible first|refine wA ?_ ?_|refine wE ?_); rfl))
section
variable {σ:Type} (hp:σ→Heap) (N:Nat) (hN:∀ s,(hp s).length=N) (nx:σ→Nat→σ) (dd nn o:Nat) (b:Br)
 (hy:∀ (s:σ) (i:Nat) (X:Heap) (Q:AV→Heap→Prop),i < b.heard.length→leads b i=true→(∀ X',Q (.t (B true)) (hp (nx s i)++X++X'))→oB (inl Try.prog pol (ans Try.prog pol) nn dd (.yl o) [.t (I (i:Nat)),.t (rkT (ofr b i))] (hp s++X)) Q)
 (hfz:∀ (s:σ) (h:Heap) (q:Nat),N≤q→mapO (frzObj h (fromB q)) (hp s)=some (hp s)) (hoN:o < N)
include hN hy hfz hoN
def ldS (b:Br) (nx:σ→Nat→σ) (s:σ) (i:Nat):σ:=if leads b i=true then nx s i else s
theorem sp_iter (c1 c2 c3:Bool) (t:Tp) (hlen:b.heard.length≤24) (hcl:b.costs.length=b.heard.length) (hbd:∀ i,i < b.heard.length → -1000000000≤(ofr b i).c∧(ofr b i).c≤1000000000) (s:σ) (Q:AV→Heap→Prop) (hn:100 < nn)
  (hQ:∀ v,Q v (hp ((List.range b.heard.length).foldl (ldS b nx) s))) :
  oB (inl Try.prog pol (ans Try.prog pol) nn (dd+1) (.fn 99) [.yl o,.t (.ip (sbC c1 c2 c3 b t))] (hp s)) Q:=by
 refine oB_inl il99_eq (Nat.le_of_ble_eq_true rfl) ?_
 have gA:∀ (s:σ) (x:AObj) (Y:Heap),(hp s++(x::Y))[N]? = some x:=fun s x Y=>by rw [List.getElem?_append_right (by rw [hN]; omega),hN,Nat.sub_self]; rfl
 have gB:∀ (s:σ) (x y:AObj) (Y:Heap),(hp s++(x::y::Y))[N+1]? = some y:=fun s x y Y=>by rw [List.getElem?_append_right (by rw [hN]; omega),hN,Nat.add_sub_cancel_left]; rfl
 have sA:∀ (s:σ) (x z:AObj) (Y:Heap),List.set (hp s++(x::Y):List AObj) N z=hp s++(z::Y):=fun s x z Y=>by
  rw [List.set_append]; simp [hN]
 have sB:∀ (s:σ) (x y z:AObj) (Y:Heap),List.set (hp s++(x::y::Y):List AObj) (N+1) z=hp s++(x::z::Y):=fun s x y z Y=>by
  rw [List.set_append]
  simp [hN]
  intro h; omega
 have tk:∀ (s:σ) (Y:Heap),(hp s++Y).take N=hp s:=fun s Y=>by
  rw [List.take_append,hN,List.take_of_length_le (by rw [hN]; omega)]; simp
 have g6:∀ (s:σ) (hx:Heap),mapO (frzObj hx (fromB N)) (hp s)=some (hp s):=fun s hx=>hfz s hx N (Nat.le_refl _)
 have hle:∀ (s:σ) (Y:Heap),(hp s++Y).length=N+Y.length:=fun s Y=>by simp [hN]
 have f2:decide (N≤o)=false:=decide_eq_false (by omega)
 (repeat' first|simp only [il99c,go_sem,hN]|(with_reducible first|apply wD|apply wT|(apply wM; intro)|(apply wL; intro))|((with_reducible first|refine wA ?_ ?_|refine wE ?_); rfl))
 refine loop_range b.heard encH (step:=fun i _ s=>.go (ldS b nx s i)) (fin:=id)
  (St:=fun k s e h=>(e 0=.yl o∧e 1=.t (.ip (sbC c1 c2 c3 b t))∧e 8=.t (.sl c3 8 (b.heard.map encH))∧e 9=.t (I (b.heard.length:Nat))∧e 10=.t (I (k:Nat)))∧h=hp s)
  (Ex:=fun s x e h=>x=.exit 0∧h=hp s) (s:=s) (by omega) ?_ ?_ (by omega) ?_ ?_
 ·intro i x s e h Y R hm hi hx hget hlt hw ⟨hs,hh⟩ hk
  subst hh
  simp only [ctlK_go] at hk
  have hb:=hbd i hi
  have hxe:x=hrd b i:=by simp [hrd,hx]
  have hcs:(b.costs.map I)[i]? = some (I (cst b i)):=by simp [cst,show i < b.costs.length by omega]
  have v1:IntKind.i64.wrap ((hrd b i).c+cst b i)=(hrd b i).c+cst b i:=wrap_i64 (by simp only [ofr] at hb; omega) (by simp only [ofr] at hb; omega)
  subst hxe
  have c2':N < N+(0+1+1):=by omega
  have k1:=better_ans (hrd b i).a (hrd b i).b b.p b.n
  by_cases q0:(hrd b i).is=true
  rotate_left
  ·have q0':(hrd b i).is=false:=by simpa using q0
   have l0:ldS b nx s i=s:=by rw [ldS,if_neg (by simp [leads,q0'])]
   rw [l0] at hk
   (repeat' first|simp only [il99l0_go,il99l0b,go_sem,hs,hget,hlt,encH_cells,hN,gA,gB,sA,sB,hle,hcs,v1,q0',tk,g6,c2',f2,frz_yl,List.append_assoc,hw]|(with_reducible first|apply wD|apply wT|(apply wM; intro)|(apply wL; intro))|((with_reducible first|refine wA ?_ ?_|refine wE ?_); rfl))
   all_goals (refine hk _ _ ⟨?_,rfl⟩; simp only [go_sem,hs,hw,f2,frz_yl])
  by_cases q1:1048576 < (hrd b i).c+cst b i
  ·have d1:decide (1048576 < (hrd b i).c+cst b i)=true:=decide_eq_true q1
   have l0:ldS b nx s i=s:=by rw [ldS,if_neg (by simp [leads,ofr,q1])]
   rw [l0] at hk
   (repeat' first|simp only [il99l0_go,il99l0b,go_sem,hs,hget,hlt,encH_cells,hN,gA,gB,sA,sB,hle,hcs,v1,q0,d1,tk,g6,c2',f2,frz_yl,List.append_assoc,hw]|(with_reducible first|apply wD|apply wT|(apply wM; intro)|(apply wL; intro))|((with_reducible first|refine wA ?_ ?_|refine wE ?_); rfl))
   all_goals (refine hk _ _ ⟨?_,rfl⟩; simp only [go_sem,hs,hw,f2,frz_yl])
  have d1:decide (1048576 < (hrd b i).c+cst b i)=false:=decide_eq_false q1
  by_cases q2:lt2 (hrd b i).a (hrd b i).b b.p b.n
  rotate_left
  ·rw [decide_eq_false q2] at k1
   have l0:ldS b nx s i=s:=by rw [ldS,if_neg (by simp [leads,q2])]
   rw [l0] at hk
   (repeat' first|simp only [il99l0_go,il99l0b,go_sem,hs,hget,hlt,encH_cells,hN,gA,gB,sA,sB,hle,hcs,v1,q0,d1,k1,tk,g6,c2',f2,frz_yl,List.append_assoc,hw]|(with_reducible first|apply wD|apply wT|(apply wM; intro)|(apply wL; intro))|((with_reducible first|refine wA ?_ ?_|refine wE ?_); rfl))
   all_goals (refine hk _ _ ⟨?_,rfl⟩; simp only [go_sem,hs,hw,f2,frz_yl])
  ·rw [decide_eq_true q2] at k1
   have l1:leads b i=true:=by simp only [leads,ofr,q0,d1,decide_eq_true q2,Bool.not_false,Bool.and_self]
   have l0:ldS b nx s i=nx s i:=by rw [ldS,if_pos l1]
   rw [l0] at hk
   have hyi:=fun X Q=>hy s i X Q hi l1
   simp only [ofr] at hyi
   (repeat' first|simp only [il99l0_go,il99l0b,go_sem,hs,hget,hlt,encH_cells,hN,gA,gB,sA,sB,hle,hcs,v1,q0,d1,k1,List.append_assoc]|(with_reducible first|apply wD|apply wT|(apply wM; intro)|(apply wL; intro))|((with_reducible first|refine wA ?_ ?_|refine wE ?_); rfl))
   refine hyi _ _ ?_
   intro X'
   have c3':N < N+(0+1+1+X'.length):=by omega
   have c4':N < N+(X'.length+1+1):=by omega
   (repeat' first|simp only [il99l0_go,il99l0b,go_sem,hle,hw,tk,g6,c3',c4',f2,frz_yl,List.append_assoc]|(with_reducible first|apply wD|apply wT|(apply wM; intro)|(apply wL; intro))|((with_reducible first|refine wA ?_ ?_|refine wE ?_); rfl))
   all_goals (refine hk _ _ ⟨?_,rfl⟩; simp only [go_sem,hs,hw,f2,frz_yl])
 ·intro s e h Y R hlt ⟨hs,hh⟩ hk
  subst hh
  (repeat' first|simp only [il99l0_go,il99l0b,go_sem,hs,hlt]|(with_reducible first|apply wD|apply wT|(apply wM; intro)|(apply wL; intro))|((with_reducible first|refine wA ?_ ?_|refine wE ?_); rfl))
  all_goals (refine hk _ _ _ ?_; simp only [go_sem,id])
 ·simp only [go_sem]
 ·intro x e h ⟨h1,h2⟩
  subst h1
  have hf:∀ (r:List Hd) (k:Nat) (s:σ),foldC (ρ:=σ) (fun i _ s=>Ctl.go (ldS b nx s i)) id k r s=(List.range' k r.length).foldl (ldS b nx) s:=by
   intro r
   induction r with
   | nil=>intro k s; rfl
   | cons l r ih=>intro k s; rw [foldC_go (s':=ldS b nx s k) rfl,ih,List.length_cons,List.range'_succ]; rfl
  rw [hf,← List.range_eq_range'] at h2
  subst h2
  (repeat' first|simp only [il99c,go_sem]|(with_reducible first|apply wD|apply wT|(apply wM; intro)|(apply wL; intro))|((with_reducible first|refine wA ?_ ?_|refine wE ?_); rfl))
  all_goals exact hQ _
end
end Go.Proofs.Ytbibdnlbpjnieaa
namespace Go.Proofs.Ytbibdnlbpjnieaa
open Go Go.Abs
structure Os' where
 t:Tp
 m:Hd
 w:Nat
def tp0 (b:Br):Tp:=⟨b.p,b.n,0,-1,0⟩
def opS (b:Br) (s:Os') (i:Nat):Os':=if s.t.via < 0∨lt6 (ofr b i) s.m < 0 then ⟨⟨(ofr b i).a,(ofr b i).b,(ofr b i).c,i,(ofr b i).g⟩,ofr b i,1⟩ else s
def opF (b:Br):Os':=(List.range b.heard.length).foldl (ldS b (opS b)) ⟨tp0 b,zH,0⟩
abbrev zS:T:=.agg [I 0,I 0,.sc (.slice none 0 0),.sc (.slice none 0 0),.sc (.slice none 0 0),I 0,I 0,I 0,I 0,I 0]
noncomputable def lpQ (rf:Code × Code) (E:FEnv):AObj:=.loop 52 (lpEnv 50 (tidyF (some [1,5,6]) E)) [22,23] rf.1 rf.2 false none
noncomputable def hpQ (rf:Code × Code) (c1 c2 c3:Bool) (b:Br) (E:FEnv) (s:Os'):Heap:=[.row 10 [.t zS] 0,.row 10 [.t (sbT c1 c2 c3 b s.t)] 1,.row 6 [.t (rkT s.m)] (min s.w 1),lpQ rf E]
theorem open_yield (rf:Code × Code) (hrf:rfOf Try.prog 52 0=rf) (c1 c2 c3:Bool) (b:Br) (E:FEnv) (hE:E 1=.t (.ip (brC c1 c2 c3 b))∧E 5=.ref 1 1 0 0∧E 6=.ref 2 1 0 0) (dd nn:Nat) (s:Os') (i:Nat) (hi:i < b.heard.length) (X:Heap) (Q:AV→Heap→Prop)
  (hQ:∀ X',Q (.t (B true)) (hpQ rf c1 c2 c3 b E (opS b s i)++X++X')) :
  oB (inl Try.prog pol (ans Try.prog pol) nn (dd+1) (.yl 3) [.t (I (i:Nat)),.t (rkT (ofr b i))] (hpQ rf c1 c2 c3 b E s++X)) Q:=by
 subst hrf
 have hg:(b.heard.map encH)[i]? = some (encH (hrd b i)):=by simp [hrd,hi]
 have k1:=compH_ans (ofr b i) s.m
 have hgg:(ofr b i).g=(hrd b i).g:=rfl
 have hmr:min s.w 1≤1:=Nat.min_le_right _ _
 have hq:=hQ [.row 6 [.t (rkT (ofr b i))] 1]
 simp only [hpQ,lpQ] at hq ⊢
 refine oB_yl (E:=tidyF (some [1,5,6]) E) rfl rfl rfl il52r0a_eq il52r0b_eq ?_
 by_cases q0:s.t.via < 0
 ·have d0:decide (s.t.via < 0)=true:=decide_eq_true q0
  rw [opS,if_pos (.inl q0)] at hq
  simp only [hgg] at hq
  generalize ofr b i=v at *
  simp only [List.cons_append,List.nil_append] at hq
  (have hc:=hc0; repeat' first|simp only [hc,il52r0a,il52r0b,go_sem,hE,hg,encH_cells,d0,get_last,set_last,hmr]|((with_reducible first|refine wG (fun hc=>?_) fun hc=>?_|refine wC (fun hc=>?_) fun hc=>?_|refine wD ?_|refine wT ?_|refine wM fun _=>?_|refine wL fun _=>?_) <;> try simp only [bq1,bq2] at hc)|((with_reducible first|refine wA ?_ ?_|refine wE ?_); rfl))
  all_goals exact hq
 ·have d0:decide (s.t.via < 0)=false:=decide_eq_false q0
  by_cases q1:lt6 (ofr b i) s.m < 0
  ·have d1:decide (lt6 (ofr b i) s.m < 0)=true:=decide_eq_true q1
   rw [opS,if_pos (.inr q1)] at hq
   simp only [hgg] at hq
   generalize ofr b i=v at *
   simp only [List.cons_append,List.nil_append] at hq
   (have hc:=hc0; repeat' first|simp only [hc,il52r0a,il52r0b,go_sem,hE,hg,encH_cells,d0,k1,d1,get_last,set_last,hmr]|((with_reducible first|refine wG (fun hc=>?_) fun hc=>?_|refine wC (fun hc=>?_) fun hc=>?_|refine wD ?_|refine wT ?_|refine wM fun _=>?_|refine wL fun _=>?_) <;> try simp only [bq1,bq2] at hc)|((with_reducible first|refine wA ?_ ?_|refine wE ?_); rfl))
   all_goals exact hq
  ·have d1:decide (lt6 (ofr b i) s.m < 0)=false:=decide_eq_false q1
   rw [opS,if_neg (by rintro (h|h); exact q0 h; exact q1 h)] at hq
   generalize ofr b i=v at *
   simp only [List.cons_append,List.nil_append] at hq
   (have hc:=hc0; repeat' first|simp only [hc,il52r0a,il52r0b,go_sem,hE,hg,encH_cells,d0,k1,d1,get_last,set_last,hmr]|((with_reducible first|refine wG (fun hc=>?_) fun hc=>?_|refine wC (fun hc=>?_) fun hc=>?_|refine wD ?_|refine wT ?_|refine wM fun _=>?_|refine wL fun _=>?_) <;> try simp only [bq1,bq2] at hc)|((with_reducible first|refine wA ?_ ?_|refine wE ?_); rfl))
   all_goals exact hq
theorem hpQ_frz (rf:Code × Code) (c1 c2 c3:Bool) (b:Br) (E:FEnv) (hE:E 5=.ref 1 1 0 0∧E 6=.ref 2 1 0 0) (x:T) (h1:E 1=.t x) (s:Os') (h:Heap) (q:Nat) (hq:4≤q):mapO (frzObj h (fromB q)) (hpQ rf c1 c2 c3 b E s)=some (hpQ rf c1 c2 c3 b E s):=by
 have f1:decide (q≤1)=false:=decide_eq_false (by omega)
 have f2:decide (q≤2)=false:=decide_eq_false (by omega)
 have h4:frzObj h (fromB q) (lpQ rf E)=some (lpQ rf E):=by
  rw [lpQ,frz_loop]
  simp only [go_sem,hE,h1,f1,f2]
 have hr:∀ (k mr:Nat) (x:T),frzObj h (fromB q) (.row k [.t x] mr)=some (.row k [.t x] mr):=by intro k mr x; simp [frzObj,avoidAll,avoid]
 simp only [hpQ,mapO,hr,h4]
theorem ofr_bound {b:Br} (h:okB b=true) (i:Nat) (hi:i < b.heard.length):-1000000000≤(ofr b i).c∧(ofr b i).c≤1000000000:=by
 have hl:=okB_len h
 simp only [okL] at hl
 have h2:=okB_at h (i:=i) (by omega)
 rw [okAt,decide_eq_true_eq] at h2
 have hc:=h2.2.2.1
 have hh:=h2.2.2.2
 simp only [ofr]
 cases hx:(hrd b i).is with
 | true=>have:=hh.1 hx; simp only [helloP] at this; omega
 | false=>have:=hh.2 hx; rw [this]; simp only [zH]; omega
theorem open_ok (c1 c2 c3:Bool) (b:Br) (hb:okB b=true):ans Try.prog pol 52 [brT c1 c2 c3 b]=some (.tup [sbT c1 c2 c3 b (opF b).t,I 0]):=by
 have k1:=chk_ok (c1:=c1) (c2:=c2) (c3:=c3) hb
 have hl:=okB_len hb
 simp only [okL] at hl
 have k2:=offers_ans c1 c2 c3 b (tp0 b)
 simp only [tp0] at k2
 refine ans_go 200 5 il52_eq (Nat.le_of_ble_eq_true rfl) ?_
 simp only [il52c]
 generalize hrf:rfOf Try.prog 52 0=rf
 (have hc:=hc0; repeat' first|simp only [hc,il52c,go_sem,k1,k2]|((with_reducible first|refine wG (fun hc=>?_) fun hc=>?_|refine wC (fun hc=>?_) fun hc=>?_|refine wD ?_|refine wT ?_|refine wM fun _=>?_|refine wL fun _=>?_) <;> try simp only [bq1,bq2] at hc)|((with_reducible first|refine wA ?_ ?_|refine wE ?_); rfl))
 have key:∀ E:FEnv,([.row 10 [.t zS] 0,.row 10 [.t (.agg [I b.p,I b.n,.sl c1 1 (b.ports.map I),.sl c2 1 (b.costs.map I),.sl c3 8 (b.heard.map encH),I b.p,I b.n,I 0,I (-1),I 0])] 1,.row 6 [.t (.agg [I 0,I 0,I 0,I 0,I 0,I 0])] 0,.loop 52 (lpEnv 50 (tidyF (some [1,5,6]) E)) [22,23] rf.1 rf.2 false none]:Heap)=hpQ rf c1 c2 c3 b E ⟨tp0 b,zH,0⟩:=fun E=>rfl
 rw [key]
 have h200:100 < 200:=by omega
 have h34:3 < 4:=by omega
 have hcl:b.costs.length=b.heard.length:=by omega
 have hhl:b.heard.length≤24:=by omega
 have hbd:=ofr_bound hb
 with_reducible refine sp_iter (fun s=>hpQ rf c1 c2 c3 b _ s) 4 (fun s=>rfl) (opS b) 4 200 3 b ?_ ?_ h34 c1 c2 c3 ⟨b.p,b.n,0,-1,0⟩ hhl hcl hbd ⟨tp0 b,zH,0⟩ _ h200 ?_
 ·intro s i X Q hi hld hQ
  exact open_yield rf hrf c1 c2 c3 b _ (by simp only [go_sem]) 3 200 s i hi X Q hQ
 ·intro s h q hq
  exact hpQ_frz rf c1 c2 c3 b _ (by simp only [go_sem]) (.ip (brC c1 c2 c3 b)) (by simp only [go_sem]) s h q hq
 ·intro x
  change rfEnd _ _ _ x (hpQ rf c1 c2 c3 b _ (opF b))
  generalize opF b=s
  have hmr:min s.w 1≤1:=Nat.min_le_right _ _
  simp only [hpQ,lpQ]
  have hr:∀ (h:Heap) (k mr:Nat) (x:T),frzObj h (fromB 3) (.row k [.t x] mr)=some (.row k [.t x] mr):=by intro h k mr x; simp [frzObj,avoidAll,avoid]
  (have hc:=hc0; repeat' first|simp only [hc,il52c,go_sem,hr,hmr]|((with_reducible first|refine wG (fun hc=>?_) fun hc=>?_|refine wC (fun hc=>?_) fun hc=>?_|refine wD ?_|refine wT ?_|refine wM fun _=>?_|refine wL fun _=>?_) <;> try simp only [bq1,bq2] at hc)|((with_reducible first|refine wA ?_ ?_|refine wE ?_); rfl))
end Go.Proofs.Ytbibdnlbpjnieaa
namespace Go.Proofs.Ytbibdnlbpjnieaa
open Go Go.Abs
def clm (b:Br) (t:Tp) (i:Nat):Hd:=⟨true,t.rp,t.rn,t.cost,b.p,b.n,prt b i,t.age⟩
def roleF (b:Br) (t:Tp) (i:Nat):Int:=if (i:Int)=t.via then 1 else if (hrd b i).is=false∨lt6 (clm b t i) (hrd b i) < 0 then 2 else 3
def sentF (b:Br) (t:Tp) (i:Nat):Hd:=if roleF b t i=2 then clm b t i else zH
section
variable (c1 c2 c3:Bool) (b:Br) (t:Tp)
theorem claim_ans (i:Nat) (hi:i < b.ports.length):ans Try.prog pol 76 [sbT c1 c2 c3 b t,I (i:Nat)]=some (rkT (clm b t i)):=by
 have hg:(b.ports.map I)[i]? = some (I (prt b i)):=by simp [prt,hi]
 refine ans_go 1 1 il76_eq (Nat.le_of_ble_eq_true rfl) ?_
 simp only [clm]
 generalize prt b i=P at *
 (repeat' first|simp only [il76c,go_sem,hg]|(with_reducible first|apply wD|apply wT|(apply wM; intro)|(apply wL; intro))|((with_reducible first|refine wA ?_ ?_|refine wE ?_); rfl))
theorem role_ans (i:Nat) (hi:i < b.ports.length) (hh:b.heard.length=b.ports.length):ans Try.prog pol 54 [sbT c1 c2 c3 b t,I (i:Nat)]=some (I (roleF b t i)):=by
 have hg:(b.heard.map encH)[i]? = some (encH (hrd b i)):=by simp [hrd,show i < b.heard.length by omega]
 have k1:=claim_ans c1 c2 c3 b t i hi
 have k2:=compH_ans (clm b t i) (hrd b i)
 refine ans_go 1 1 il54_eq (Nat.le_of_ble_eq_true rfl) ?_
 by_cases q0:(i:Int)=t.via
 ·have d0:decide ((i:Int)=t.via)=true:=decide_eq_true q0
  rw [roleF,if_pos q0]
  (repeat' first|simp only [il54c,go_sem,hg,encH_cells,d0]|(with_reducible first|apply wD|apply wT|(apply wM; intro)|(apply wL; intro))|((with_reducible first|refine wA ?_ ?_|refine wE ?_); rfl))
 have d0:decide ((i:Int)=t.via)=false:=decide_eq_false q0
 rw [roleF,if_neg q0]
 by_cases q1:(hrd b i).is=false
 ·rw [if_pos (.inl q1)]
  (repeat' first|simp only [il54c,go_sem,hg,encH_cells,d0,q1]|(with_reducible first|apply wD|apply wT|(apply wM; intro)|(apply wL; intro))|((with_reducible first|refine wA ?_ ?_|refine wE ?_); rfl))
 have q1':(hrd b i).is=true:=by simpa using q1
 by_cases q2:lt6 (clm b t i) (hrd b i) < 0
 ·have d2:decide (lt6 (clm b t i) (hrd b i) < 0)=true:=decide_eq_true q2
  rw [if_pos (.inr q2)]
  (repeat' first|simp only [il54c,go_sem,hg,encH_cells,d0,q1',k1,k2,d2]|(with_reducible first|apply wD|apply wT|(apply wM; intro)|(apply wL; intro))|((with_reducible first|refine wA ?_ ?_|refine wE ?_); rfl))
 ·have d2:decide (lt6 (clm b t i) (hrd b i) < 0)=false:=decide_eq_false q2
  rw [if_neg (by rintro (h|h); exact q1 h; exact q2 h)]
  (repeat' first|simp only [il54c,go_sem,hg,encH_cells,d0,q1',k1,k2,d2]|(with_reducible first|apply wD|apply wT|(apply wM; intro)|(apply wL; intro))|((with_reducible first|refine wA ?_ ?_|refine wE ?_); rfl))
theorem sent_ans (i:Nat) (hi:i < b.ports.length) (hh:b.heard.length=b.ports.length):ans Try.prog pol 89 [sbT c1 c2 c3 b t,I (i:Nat)]=some (hdT (sentF b t i)):=by
 have k1:=claim_ans c1 c2 c3 b t i hi
 have k2:=role_ans c1 c2 c3 b t i hi hh
 refine ans_go 1 1 il89_eq (Nat.le_of_ble_eq_true rfl) ?_
 by_cases q:roleF b t i=2
 ·have d1:decide (roleF b t i=2)=true:=decide_eq_true q
  rw [sentF,if_pos q]
  simp only [clm] at k1 ⊢
  (repeat' first|simp only [il89c,go_sem,k1,k2,d1]|(with_reducible first|apply wD|apply wT|(apply wM; intro)|(apply wL; intro))|((with_reducible first|refine wA ?_ ?_|refine wE ?_); rfl))
 ·have d1:decide (roleF b t i=2)=false:=decide_eq_false q
  rw [sentF,if_neg q]
  simp only [zH]
  (repeat' first|simp only [il89c,go_sem,k1,k2,d1]|(with_reducible first|apply wD|apply wT|(apply wM; intro)|(apply wL; intro))|((with_reducible first|refine wA ?_ ?_|refine wE ?_); rfl))
theorem eachI_ans (hl:b.ports.length≤1000) (hh:b.heard.length=b.ports.length):ans Try.prog pol 53 [sbT c1 c2 c3 b t,.fn (.func 54) [sbT c1 c2 c3 b t] []]=some (.sl true 1 (((List.range b.ports.length).map (roleF b t)).map I)):=by
 have hroom:8*b.ports.length≤roomB:=by rw [Nat.mul_comm]; exact ap_room (by omega) (by omega)
 have hbig:b.ports.length≤9223372036854775807:=by omega
 refine ans_go 2000 1 il53_eq (Nat.le_of_ble_eq_true rfl) ?_
 (repeat' first|simp only [il53c,go_sem,hroom,hbig]|(with_reducible first|apply wD|apply wT|(apply wM; intro)|(apply wL; intro))|((with_reducible first|refine wA ?_ ?_|refine wE ?_); rfl))
 refine loop_upto b.ports.length (step:=fun i (_:Unit)=>Ctl.go ()) (fin:=id)
  (St:=fun i _ e h=>(e 1=.t (.fn (.func 54) [sbT c1 c2 c3 b t] [])∧e 5=.ms 0 b.ports.length 0 b.ports.length 1 true∧e 13=.t (I (b.ports.length:Nat))∧e 14=.t (I (i:Nat)))∧∃ mr,mr≤b.ports.length∧h=[.row 1 (((fillL (roleF b t) (0:Int) b.ports.length i).map I).map .t) mr])
  (Ex:=fun _ x e h=>e 5=.ms 0 b.ports.length 0 b.ports.length 1 true∧x=.exit 0∧∃ mr,mr≤b.ports.length∧h=[.row 1 ((((List.range b.ports.length).map (roleF b t)).map I).map .t) mr]) (s:=()) (by omega) ?_ ?_ (by omega) ?_ ?_
 ·intro i _ e h Y R hi hlt hw ⟨hs,mr,hmr,hh'⟩ hk
  subst hh'
  simp only [ctlK_go] at hk
  have k1:=role_ans c1 c2 c3 b t i hi hh
  have hset:=fillL_set (f:=roleF b t) (z:=(0:Int)) hi rfl
  have hlen:=fillL_len (roleF b t) (0:Int) (Nat.le_of_lt hi)
  generalize hL:fillL (roleF b t) (0:Int) b.ports.length i=L at *
  obtain ⟨old,hold⟩:∃ w,L[i]? = some w:=⟨L[i]'(by omega),by simp⟩
  have hget:(List.map AV.t (List.map I L))[i]? = some (.t (I old)):=map_get (enc:=I) hold
  have hst':=map_set (enc:=I) (l:=L) (i:=i) (x:=roleF b t i)
  rw [hset] at hst'
  generalize hB:roleF b t i=v at *
  (repeat' first|simp only [il53l0_go,il53l0b,go_sem,hs,hlt,k1,hget,hlen,hmr,hi,hw,hst',frz_rowH]|(with_reducible first|apply wD|apply wT|(apply wM; intro)|(apply wL; intro))|((with_reducible first|refine wA ?_ ?_|refine wE ?_); rfl))
  all_goals (refine hk _ _ ⟨?_,b.ports.length,Nat.le_refl _,?_⟩ <;> simp only [go_sem,hs,hw])
 ·intro _ e h Y R hlt ⟨hs,mr,hmr,hh'⟩ hk
  subst hh'
  (repeat' first|simp only [il53l0_go,il53l0b,go_sem,hs,hlt,frz_rowH]|(with_reducible first|apply wD|apply wT|(apply wM; intro)|(apply wL; intro))|((with_reducible first|refine wA ?_ ?_|refine wE ?_); rfl))
  all_goals (refine hk _ _ _ ⟨?_,rfl,mr,hmr,?_⟩ <;> (try simp only [go_sem,hs]))
  all_goals simp only [fillL_all,id]
 ·refine ⟨?_,0,by omega,?_⟩
  ·simp only [go_sem]
  ·rw [fillL_zero]; simp
 ·intro x e h ⟨h1,h2,mr,hmr,h3⟩
  subst h2 h3
  have hll:((List.range b.ports.length).map (roleF b t)).length=b.ports.length:=by simp
  generalize (List.range b.ports.length).map (roleF b t)=L at *
  (repeat' first|simp only [il53c,go_sem,h1,hll,hmr]|(with_reducible first|apply wD|apply wT|(apply wM; intro)|(apply wL; intro))|((with_reducible first|refine wA ?_ ?_|refine wE ?_); rfl))
theorem eachH_ans (hl:b.ports.length≤1000) (hh:b.heard.length=b.ports.length):ans Try.prog pol 88 [sbT c1 c2 c3 b t,.fn (.func 89) [sbT c1 c2 c3 b t] []]=some (.sl true 8 (((List.range b.ports.length).map (sentF b t)).map encH)):=by
 have hroom:64*b.ports.length≤roomB:=by rw [Nat.mul_comm]; exact ap_room (by omega) (by omega)
 have hbig:b.ports.length≤9223372036854775807:=by omega
 refine ans_go 2000 1 il88_eq (Nat.le_of_ble_eq_true rfl) ?_
 (repeat' first|simp only [il88c,go_sem,hroom,hbig]|(with_reducible first|apply wD|apply wT|(apply wM; intro)|(apply wL; intro))|((with_reducible first|refine wA ?_ ?_|refine wE ?_); rfl))
 refine loop_upto b.ports.length (step:=fun i (_:Unit)=>Ctl.go ()) (fin:=id)
  (St:=fun i _ e h=>(e 1=.t (.fn (.func 89) [sbT c1 c2 c3 b t] [])∧e 5=.ms 0 b.ports.length 0 b.ports.length 8 true∧e 13=.t (I (b.ports.length:Nat))∧e 14=.t (I (i:Nat)))∧∃ mr,mr≤b.ports.length∧h=[.row 8 (((fillL (sentF b t) zH b.ports.length i).map encH).map .t) mr])
  (Ex:=fun _ x e h=>e 5=.ms 0 b.ports.length 0 b.ports.length 8 true∧x=.exit 0∧∃ mr,mr≤b.ports.length∧h=[.row 8 ((((List.range b.ports.length).map (sentF b t)).map encH).map .t) mr]) (s:=()) (by omega) ?_ ?_ (by omega) ?_ ?_
 ·intro i _ e h Y R hi hlt hw ⟨hs,mr,hmr,hh'⟩ hk
  subst hh'
  simp only [ctlK_go] at hk
  have k1:=sent_ans c1 c2 c3 b t i hi hh
  have hset:=fillL_set (f:=sentF b t) (z:=zH) hi rfl
  have hlen:=fillL_len (sentF b t) zH (Nat.le_of_lt hi)
  generalize hL:fillL (sentF b t) zH b.ports.length i=L at *
  obtain ⟨old,hold⟩:∃ w,L[i]? = some w:=⟨L[i]'(by omega),by simp⟩
  have hget:(List.map AV.t (List.map encH L))[i]? = some (.t (hdT old)):=map_get (enc:=encH) hold
  have hst':=map_set (enc:=encH) (l:=L) (i:=i) (x:=sentF b t i)
  rw [hset] at hst'
  simp only [encH] at hst'
  generalize hB:sentF b t i=v at *
  (repeat' first|simp only [il88l0_go,il88l0b,go_sem,hs,hlt,k1,hget,hlen,hmr,hi,hw,hst',frz_rowH]|(with_reducible first|apply wD|apply wT|(apply wM; intro)|(apply wL; intro))|((with_reducible first|refine wA ?_ ?_|refine wE ?_); rfl))
  all_goals (refine hk _ _ ⟨?_,b.ports.length,Nat.le_refl _,?_⟩ <;> simp only [go_sem,hs,hw])
 ·intro _ e h Y R hlt ⟨hs,mr,hmr,hh'⟩ hk
  subst hh'
  (repeat' first|simp only [il88l0_go,il88l0b,go_sem,hs,hlt,frz_rowH]|(with_reducible first|apply wD|apply wT|(apply wM; intro)|(apply wL; intro))|((with_reducible first|refine wA ?_ ?_|refine wE ?_); rfl))
  all_goals (refine hk _ _ _ ⟨?_,rfl,mr,hmr,?_⟩ <;> (try simp only [go_sem,hs]))
  all_goals simp only [fillL_all,id]
 ·refine ⟨?_,0,by omega,?_⟩
  ·simp only [go_sem]
  ·rw [fillL_zero]; simp [encH,zH]
 ·intro x e h ⟨h1,h2,mr,hmr,h3⟩
  subst h2 h3
  have hll:((List.range b.ports.length).map (sentF b t)).length=b.ports.length:=by simp
  generalize (List.range b.ports.length).map (sentF b t)=L at *
  (repeat' first|simp only [il88c,go_sem,h1,hll,hmr]|(with_reducible first|apply wD|apply wT|(apply wM; intro)|(apply wL; intro))|((with_reducible first|refine wA ?_ ?_|refine wE ?_); rfl))
theorem Roles_ok (hb:okB b=true):ans Try.prog pol 27 [brT c1 c2 c3 b]=some (.tup [.sl true 1 (((List.range b.ports.length).map (roleF b (opF b).t)).map I),I 0]):=by
 have k1:=open_ok c1 c2 c3 b hb
 have hl:=okB_len hb
 simp only [okL] at hl
 generalize (opF b).t=t at *
 have k2:=eachI_ans c1 c2 c3 b t (by omega) (by omega)
 generalize (List.range b.ports.length).map (roleF b t)=L at *
 refine ans_go 1 1 il27_eq (Nat.le_of_ble_eq_true rfl) ?_
 (repeat' first|simp only [il27c,go_sem,k1,k2]|(with_reducible first|apply wD|apply wT|(apply wM; intro)|(apply wL; intro))|((with_reducible first|refine wA ?_ ?_|refine wE ?_); rfl))
theorem Send_ok (hb:okB b=true):ans Try.prog pol 64 [brT c1 c2 c3 b]=some (.tup [.sl true 8 (((List.range b.ports.length).map (sentF b (opF b).t)).map encH),I 0]):=by
 have k1:=open_ok c1 c2 c3 b hb
 have hl:=okB_len hb
 simp only [okL] at hl
 generalize (opF b).t=t at *
 have k2:=eachH_ans c1 c2 c3 b t (by omega) (by omega)
 generalize (List.range b.ports.length).map (sentF b t)=L at *
 refine ans_go 1 1 il64_eq (Nat.le_of_ble_eq_true rfl) ?_
 (repeat' first|simp only [il64c,go_sem,k1,k2]|(with_reducible first|apply wD|apply wT|(apply wM; intro)|(apply wL; intro))|((with_reducible first|refine wA ?_ ?_|refine wE ?_); rfl))
end
end Go.Proofs.Ytbibdnlbpjnieaa
namespace Go.Proofs.Ytbibdnlbpjnieaa
open Go Go.Abs
abbrev zN6:T:=.agg [I 0,.sc (.slice none 0 0),.sc (.slice none 0 0),.sc (.slice none 0 0),.sc (.slice none 0 0),.sc (.slice none 0 0)]
abbrev stepsT:T:=.agg [.fn (.func 39) [] [],.fn (.func 40) [] [],.fn (.func 41) [] []]
def rdH (w:Nw) (bs:List Bx) (mr:Nat) (sent:AV) (g:FuncId):Heap :=
 [.row 6 [.t zN6] 0,.row 3 [.t stepsT] 1,.row 6 [.agg (nwA 3 5 w)] 1,dnRow w,.row 6 [.agg (nwA 3 5 w)] 1,bsRow bs mr,.row 7 [.agg (nwA 3 5 w++[sent])] 1,.row 1 [.t (.agg [.fn (.func g) [] []])] 1]
def encS:Option (List Hd)→T
 | none=>.sc (.slice none 0 0)
 | some l=>.sl true 8 (l.map encH)
def sends (b:Br):List Hd:=(List.range b.ports.length).map (sentF b (opF b).t)
def sentAt (t:Tpo) (bs:List Bx) (n:Nat):Option (List Hd):=if stA t n=true then none else some (sends (bs[n]?.getD zBx).b)
noncomputable def lpSd (rf:Code × Code) (E:FEnv):AObj:=.loop 39 (lpEnv 40 (tidyF (some [1,2]) E)) [23,24] rf.1 rf.2 false none
noncomputable def hpSd (w:Nw) (bs:List Bx) (mr:Nat) (rf:Code × Code) (E:FEnv) (s:List (Option (List Hd)) × Nat):Heap :=
 rdH w bs mr (.ms 10 w.bs.length 0 w.bs.length 1 true) 39++[.row 1 [.ref 6 1 0 0] 0,.row 1 [.t (I 0)] 0,.row 1 ((s.1.map encS).map .t) s.2,.row 6 [.agg (nwA 3 5 w)] 0,lpSd rf E]
theorem frz_rowA {k mr:Nat} {es:List AV} {h:Heap} {p:Nat→Bool} (ha:avoidAll p es=true):frzObj h p (.row k es mr)=some (.row k es mr):=by simp only [frzObj,ha,if_true]
theorem frz_mapA {α:Type} {enc:α→T} {k mr:Nat} {l:List α} {h:Heap} {p:Nat→Bool}:frzObj h p (.row k ((l.map enc).map .t) mr)=some (.row k ((l.map enc).map .t) mr):=frz_rowA av_map
theorem hpSd_frz (w:Nw) (bs:List Bx) (mr:Nat) (rf:Code × Code) (E:FEnv) (hE:E 1=.ref 8 1 0 0∧E 2=.ref 9 1 0 0) (s:List (Option (List Hd)) × Nat) (h:Heap) (q:Nat) (hq:13≤q):mapO (frzObj h (fromB q)) (hpSd w bs mr rf E s)=some (hpSd w bs mr rf E s):=by
 have f8:decide (q≤8)=false:=decide_eq_false (by omega)
 have f9:decide (q≤9)=false:=decide_eq_false (by omega)
 have f3:decide (q≤3)=false:=decide_eq_false (by omega)
 have f5:decide (q≤5)=false:=decide_eq_false (by omega)
 have f6:decide (q≤6)=false:=decide_eq_false (by omega)
 have f10:decide (q≤10)=false:=decide_eq_false (by omega)
 have h1:frzObj h (fromB q) (lpSd rf E)=some (lpSd rf E):=by
  rw [lpSd,frz_loop]
  simp only [go_sem,hE,f8,f9]
 have a1:avoidAll (fromB q) [.agg (nwA 3 5 w)]=true:=by simp [nwA,avoidAll,avoid,fromB,f3,f5]
 have a2:avoidAll (fromB q) [.agg (nwA 3 5 w++[.ms 10 w.bs.length 0 w.bs.length 1 true])]=true:=by simp [nwA,avoidAll,avoid,fromB,f3,f5,f10]
 have a3:avoidAll (fromB q) [.ref 6 1 0 0]=true:=by simp [avoidAll,avoid,fromB,f6]
 have a4:∀ x:T,avoidAll (fromB q) [.t x]=true:=fun x=>by simp [avoidAll,avoid]
 simp only [hpSd,rdH,List.cons_append,List.nil_append,dnRow,bsRow,mapO,h1,frz_mapA,frz_rowA a1,frz_rowA a2,frz_rowA a3,frz_rowA (a4 _)]
theorem send_yield (rf:Code × Code) (hrf:rfOf Try.prog 39 0=rf) (w:Nw) (bs:List Bx) (mr:Nat) (hbs:bs.length=w.bs.length) (E:FEnv) (hE:E 1=.ref 8 1 0 0∧E 2=.ref 9 1 0 0) (dd nn:Nat) (s:List (Option (List Hd)) × Nat)
  (hs:s.1.length=w.bs.length∧s.2≤w.bs.length) (n:Nat) (x:Bx) (hx:bs[n]? = some x) (hz:x.z=false) (hok:okB x.b=true) (X:Heap) (Q:AV→Heap→Prop)
  (hQ:∀ X',Q (.t (B true)) (hpSd w bs mr rf E (s.1.set n (some (sends x.b)),w.bs.length)++X++X')) :
  oB (inl Try.prog pol (ans Try.prog pol) nn (dd+1) (.yl 12) [.t (I (n:Nat)),.t (.agg (bxC x))] (hpSd w bs mr rf E s++X)) Q:=by
 subst hrf
 obtain ⟨z,c1,c2,c3,b⟩:=x
 dsimp only at hz hok hQ
 subst hz
 have hbc:bxC ⟨false,c1,c2,c3,b⟩=brC c1 c2 c3 b:=rfl
 rw [hbc]
 have k1:=Send_ok c1 c2 c3 b hok
 have hn:n < w.bs.length:=by rw [← hbs]; exact (List.getElem?_eq_some_iff.1 hx).1
 have hi:n < s.1.length:=by omega
 have hg:((s.1.map encS).map AV.t)[n]? = some (.t (encS s.1[n])):=map_get (enc:=encS) (by simp [hi])
 have hset:=map_set (enc:=encS) (l:=s.1) (i:=n) (x:=some (sends b))
 have hes:encS (some (sends b))=.sl true 8 (((List.range b.ports.length).map (sentF b (opF b).t)).map encH):=rfl
 rw [hes] at hset
 have hio:(AV.t (encS s.1[n])).isAgg=false:=by cases s.1[n] <;> rfl
 have hco:(AV.t (encS s.1[n])).cells=[.t (encS s.1[n])]:=by cases s.1[n] <;> rfl
 have hl:((s.1.map encS).map AV.t).length=w.bs.length:=by simp [hs.1]
 have hq:=hQ [.row 5 [.t (.agg (brC c1 c2 c3 b))] 1]
 have hs2:=hs.2
 generalize ((List.range b.ports.length).map (sentF b (opF b).t)).map encH=S at *
 simp only [hpSd,rdH,lpSd,List.cons_append,List.nil_append,nwA] at hq ⊢
 rw [← hset] at hq
 generalize (s.1.map encS).map AV.t=L at *
 generalize encS s.1[n]=old at *
 refine oB_yl (E:=tidyF (some [1,2]) E) rfl rfl rfl il39r0a_eq il39r0b_eq ?_
 (repeat' first|simp only [il39r0a,il39r0b,go_sem,hE,k1,hn,hg,hl,hs2,hio,hco,get_last,set_last]|(with_reducible first|apply wD|apply wT|(apply wM; intro)|(apply wL; intro))|((with_reducible first|refine wA ?_ ?_|refine wE ?_); rfl))
 all_goals exact hq
theorem fillL_at {α:Type} {f:Nat→α} {z:α} {n i:Nat} (h:i < n):(fillL f z n i)[i]? = some z:=by
 rw [fillL,List.getElem?_append_right (by simp)]
 simp only [List.length_map,List.length_range,Nat.sub_self]
 rw [List.getElem?_replicate,if_pos (by omega)]
theorem fillL_same {α:Type} {f:Nat→α} {z:α} {n i:Nat} (h:i < n) (hz:f i=z):fillL f z n (i+1)=fillL f z n i:=by
 rw [← fillL_set h (x:=z) hz.symm]
 apply List.ext_getElem?
 intro j
 rw [List.getElem?_set]
 split
 ·rename_i hj
  subst hj
  have hl:=fillL_len f z (Nat.le_of_lt h)
  rw [fillL_at h,if_pos (by omega)]
 ·rfl
def okBs (w:Nw) (bs:List Bx):Prop:=bs.length=w.bs.length∧∀ n x,bs[n]? = some x→stA w.t n=false→x.z=false∧okB x.b=true
theorem send_ok (w:Nw) (bs:List Bx) (mr:Nat) (hmr:mr≤w.bs.length) (hbs:okBs w bs) (hst:(w.t.station.length:Int)=w.t.nodes) (hbl:(w.bs.length:Int)=w.t.nodes) (hb:w.bs.length≤100) (dd nn:Nat) (hn:200 < nn) (Q:AV→Heap→Prop)
  (hQ:∀ mrs,mrs≤w.bs.length→Q (.t (I 0)) (rdH w bs mr (.ms 10 w.bs.length 0 w.bs.length 1 true) 39++[.row 1 [.ref 6 1 0 0] 0,.row 1 [.t (I 0)] 1,.row 1 ((((List.range w.bs.length).map (sentAt w.t bs)).map encS).map .t) mrs,.row 6 [.agg (nwA 3 5 w)] 0])) :
  oB (inl Try.prog pol (ans Try.prog pol) nn (dd+3) (.fn 39) [.ref 6 1 0 0] (rdH w bs mr (.t (.sc (.slice none 0 0))) 39)) Q:=by
 have hroom:24*w.bs.length≤roomB:=by rw [Nat.mul_comm]; exact ap_room (by omega) (by omega)
 have hbig:w.bs.length≤9223372036854775807:=by omega
 refine oB_inl il39_eq (Nat.le_of_ble_eq_true rfl) ?_
 simp only [il39c]
 generalize hrf:rfOf Try.prog 39 0=rf
 simp only [rdH,nwA]
 (repeat' first|simp only [List.cons_append,List.nil_append,go_sem,hroom,hbig]|(with_reducible first|apply wD|apply wT|(apply wM; intro)|(apply wL; intro))|((with_reducible first|refine wA ?_ ?_|refine wE ?_); rfl)|((with_reducible refine oB_inl il26_eq ?_ ?_); exact Nat.le_of_ble_eq_true rfl; simp only [il26c]))
 have hmap:List.replicate w.bs.length (AV.t (T.sc (Value.slice none 0 0)))=((List.replicate w.bs.length (none:Option (List Hd))).map encS).map .t:=by simp [encS]
 have key:∀ E:FEnv,([.row 6 [.t zN6] 0,.row 3 [.t stepsT] 1,.row 6 [.agg (nwA 3 5 w)] 1,dnRow w,.row 6 [.agg (nwA 3 5 w)] 1,bsRow bs mr,.row 7 [.agg (nwA 3 5 w++[.ms 10 w.bs.length 0 w.bs.length 1 true])] 1,.row 1 [.t (.agg [.fn (.func 39) [] []])] 1,
  .row 1 [.ref 6 1 0 0] 0,.row 1 [.t (I 0)] 0,.row 1 (((List.replicate w.bs.length (none:Option (List Hd))).map encS).map .t) 0,.row 6 [.agg (nwA 3 5 w)] 0,.loop 39 (lpEnv 40 (tidyF (some [1,2]) E)) [23,24] rf.1 rf.2 false none]:Heap)=hpSd w bs mr rf E (List.replicate w.bs.length none,0):=fun E=>rfl
 simp only [nwA,List.cons_append,List.nil_append] at key
 rw [hmap,key]
 obtain ⟨hb1,hb2⟩:=hbs
 have h1213:12 < 13:=by omega
 have h1113:11 < 13:=by omega
 have h513:5 < 13:=by omega
 have h01:0≤1:=by omega
 have hI0:(List.replicate w.bs.length none,0).1=fillL (sentAt w.t bs) none w.bs.length 0∧(List.replicate w.bs.length (none:Option (List Hd)),0).2≤w.bs.length:=⟨(fillL_zero _ _ _).symm,Nat.zero_le _⟩
 with_reducible refine all_iterR (fun s=>hpSd w bs mr rf _ s) 13 (fun s=>rfl) (fun s n=>(s.1.set n (some (sends (bs[n]?.getD zBx).b)),w.bs.length)) (dd+1) nn 12 (fun n s=>s.1=fillL (sentAt w.t bs) none w.bs.length n∧s.2≤w.bs.length) w ?_ ?_ h1213 11 3 5 0 h1113 h01 h513 (fun _=>bs) (fun _=>mr) (fun _=>hb1) (fun _=>hmr) (fun _ _=>rfl) (fun _ _=>rfl) hst hbl hb ?_ (List.replicate w.bs.length none,0) hI0 _ hn ?_
 ·intro n s hnb hI
  have hI:s.1=fillL (sentAt w.t bs) none w.bs.length n∧s.2≤w.bs.length:=hI
  show (stS w.t _ s n).1=fillL (sentAt w.t bs) none w.bs.length (n+1)∧(stS w.t _ s n).2≤w.bs.length
  unfold stS
  by_cases hs:stA w.t n=true
  ·rw [if_pos hs,fillL_same hnb (by rw [sentAt,if_pos hs])]
   exact hI
  ·rw [if_neg hs]
   refine ⟨?_,Nat.le_refl _⟩
   show s.1.set n _=_
   rw [hI.1]
   exact fillL_set hnb (by rw [sentAt,if_neg hs])
 ·intro s h q hq
  exact hpSd_frz w bs mr rf _ (by simp only [go_sem]) s h q hq
 ·intro s n x Q hx hs hI hQ
  have hI:s.1=fillL (sentAt w.t bs) none w.bs.length n∧s.2≤w.bs.length:=hI
  obtain ⟨q1,q2⟩:=hb2 n x hx hs
  have hnl:n < w.bs.length:=by rw [← hb1]; exact (List.getElem?_eq_some_iff.1 hx).1
  refine send_yield rf hrf w bs mr hb1 _ (by simp only [go_sem]) dd nn s ⟨by rw [hI.1]; exact fillL_len _ _ (Nat.le_of_lt hnl),hI.2⟩ n x hx q1 q2 [.row 5 [.t (.agg (bxC x))] 1] Q ?_
  have hQ':∀ X',Q (.t (B true)) (hpSd w bs mr rf _ (s.1.set n (some (sends (bs[n]?.getD zBx).b)),w.bs.length)++[.row 5 [.t (.agg (bxC x))] 1]++X'):=hQ
  rw [hx] at hQ'
  exact hQ'
 ·intro v
  have hfin:∀ (k:Nat),k≤w.bs.length→((List.range k).foldl (stS w.t (fun (s:List (Option (List Hd)) × Nat) n=>(s.1.set n (some (sends (bs[n]?.getD zBx).b)),w.bs.length))) (List.replicate w.bs.length none,0)).1=fillL (sentAt w.t bs) none w.bs.length k∧((List.range k).foldl (stS w.t (fun (s:List (Option (List Hd)) × Nat) n=>(s.1.set n (some (sends (bs[n]?.getD zBx).b)),w.bs.length))) (List.replicate w.bs.length none,0)).2≤w.bs.length:=by
   intro k
   induction k with
   | zero=>intro _; exact hI0
   | succ k ih =>
    intro hk
    have hI:=ih (by omega)
    rw [List.range_succ,List.foldl_append,List.foldl_cons,List.foldl_nil]
    generalize (List.range k).foldl _ _=s at *
    unfold stS
    by_cases hs:stA w.t k=true
    ·rw [if_pos hs,fillL_same (by omega) (by rw [sentAt,if_pos hs])]
     exact hI
    ·rw [if_neg hs]
     refine ⟨?_,Nat.le_refl _⟩
     show s.1.set k _=_
     rw [hI.1]
     exact fillL_set (by omega) (by rw [sentAt,if_neg hs])
  obtain ⟨f1,f2⟩:=hfin w.bs.length (Nat.le_refl _)
  have hq:=hQ _ f2
  generalize (List.range w.bs.length).foldl _ _=s at *
  rw [fillL_all] at f1
  rw [← f1] at hq
  change rfEnd _ _ _ v (hpSd w bs mr rf _ s)
  simp only [hpSd,rdH,lpSd,List.cons_append,List.nil_append,nwA,bsRow,dnRow] at hq ⊢
  (repeat' first|simp only [il39c,go_sem,frz_mapA]|(with_reducible first|apply wD|apply wT|(apply wM; intro)|(apply wL; intro))|((with_reducible first|refine wA ?_ ?_|refine wE ?_); rfl))
  all_goals exact hq
end Go.Proofs.Ytbibdnlbpjnieaa
namespace Go.Proofs.Ytbibdnlbpjnieaa
open Go Go.Abs
theorem okB_put {b:Br} (h:okB b=true) {hd:List Hd} (hl:hd.length=b.heard.length) (hx:∀ x∈hd,okH x):okB (putB b hd)=true:=by
 have h0:=okB_len h
 have h1:=h
 rw [okB,Bool.and_eq_true,Bool.and_eq_true] at h1
 have h3:=of_decide_eq_true h1.1.2
 simp only [okL] at h0
 rw [okB,Bool.and_eq_true,Bool.and_eq_true,List.all_eq_true]
 refine ⟨⟨decide_eq_true ?_,decide_eq_true h3⟩,?_⟩
 ·simp only [okL,putB]; omega
 ·intro i hi
  simp only [putB,List.mem_range] at hi
  have h2:=okB_at h hi
  simp only [okAt,decide_eq_true_eq] at h2 ⊢
  refine ⟨h2.1,h2.2.1,h2.2.2.1,?_⟩
  obtain ⟨x,hx'⟩:∃ x,hd[i]? = some x:=⟨hd[i]'(by omega),by simp⟩
  simp only [hrd,putB,hx',Option.getD_some]
  exact hx x (List.mem_of_getElem? hx')
theorem okH_tick {h:Hd} (hk:okH h):okH (tickH h):=by
 unfold tickH
 by_cases q:h.is=false
 ·rw [if_pos q]; exact hk
 ·have q':h.is=true:=by simpa using q
  rw [if_neg q]
  have h1:=hk.1 q'
  by_cases q2:20 < h.g+1
  ·rw [if_pos q2]; exact ⟨(fun h=>(by cases h)),fun _=>rfl⟩
  ·rw [if_neg q2]
   refine ⟨fun _=>?_,fun h=>?_⟩
   ·simp only [helloP] at h1 ⊢; exact ⟨h1.1,by omega⟩
   ·simp only at h; rw [q'] at h; exact (by cases h)
theorem okH_as {h:Hd} (hk:helloP h):okH (heardAs h):=⟨fun _=>hk,(fun h=>(by cases h))⟩
theorem okH_rcv {o h:Hd} (ho:okH o) (hk:helloP h):okH (rcvH o h):=by
 unfold rcvH
 split
 ·exact okH_as hk
 ·exact ho
end Go.Proofs.Ytbibdnlbpjnieaa
