/- Part 22 of the proof of TreeRecovers. -/
import Derived.Test.YtbibdnlbpjnieaaR21
set_option linter.all false
set_option maxRecDepth 100000
set_option maxHeartbeats 4000000
namespace Go.Proofs.Ytbibdnlbpjnieaa
open Go Go.Abs
def bk (p:Nat):Nat:=if p % 2=0 then p+1 else p - 1
theorem bk_lt {p L:Nat} (h:p < 2*L):bk p < 2*L:=by unfold bk; split <;> omega
theorem bk_half (p:Nat):bk p / 2=p / 2:=by unfold bk; split <;> omega
theorem bk_bk (p:Nat):bk (bk p)=p:=by unfold bk; split <;> split <;> omega
theorem bk_fr (t:Tpo) (p:Nat):frP t (bk p)=toP t p:=by
 unfold frP toP
 rw [bk_half]
 have:bk p % 2=0↔¬ p % 2=0:=by unfold bk; split <;> omega
 by_cases h:p % 2=0
 ·rw [if_neg (by rw [this]; simpa using h),if_pos h]
 ·rw [if_pos (this.2 h),if_neg h]
theorem bk_to (t:Tpo) (p:Nat):toP t (bk p)=frP t p:=by rw [← bk_fr,bk_bk]
theorem xor1 (p:Nat) (h:p < 48):i64xor (p:Int) 1=((bk p:Nat):Int):=by
 have:∀ q:Fin 48,i64xor ((q.1:Nat):Int) 1=((bk q.1:Nat):Int):=by decide +kernel
 exact this ⟨p,h⟩
def ixP (t:Tpo) (p:Nat):Nat:=(idxL (ofN p) 0 ((trunkL t (frP t p)).map ofN)).toNat
theorem idxL_spec {α:Type} [DecidableEq α] {v:α}:∀ {l:List α} {i:Nat},v∈l→∃ j,j < l.length∧l[j]? = some v∧idxL v i l=((i+j:Nat):Int):=by
 intro l
 induction l with
 | nil=>intro i h; cases h
 | cons x l ih =>
  intro i h
  rw [idxL]
  by_cases hx:x=v
  ·rw [if_pos hx]; exact ⟨0,by simp,by simp [hx],rfl⟩
  ·rw [if_neg hx]
   have:v∈l:=by
    cases h with
    | head=>exact absurd rfl hx
    | tail _ h=>exact h
   obtain ⟨j,h1,h2,h3⟩:=ih (i:=i+1) this
   exact ⟨j+1,by simp; omega,by simpa using h2,by rw [h3]; congr 1; omega⟩
theorem ixP_spec {t:Tpo} {p:Nat} (h:p∈trunkL t (frP t p)):ixP t p < (trunkL t (frP t p)).length∧(trunkL t (frP t p))[ixP t p]? = some p∧idxL (ofN p) 0 ((trunkL t (frP t p)).map ofN)=((ixP t p:Nat):Int):=by
 obtain ⟨j,h1,h2,h3⟩:=idxL_spec (v:=ofN p) (i:=0) (List.mem_map_of_mem (f:=ofN) h)
 have hj:ixP t p=j:=by rw [ixP,h3]; omega
 rw [hj]
 refine ⟨by simpa using h1,?_,by rw [h3]; congr 1; omega⟩
 rw [List.getElem?_map,Option.map_eq_some_iff] at h2
 obtain ⟨q,hq,hqp⟩:=h2
 have:q=p:=by simp only [ofN] at hqp; omega
 rw [hq,this]
theorem mem_trunk {t:Tpo} {n:Int} {p:Nat}:p∈trunkL t n↔p < 2*t.links.length∧frP t p=n∧stA t (toP t p).toNat=false:=by
 simp [trunkL,portsL,List.mem_filter,innP,and_assoc]
 exact fun _=>And.comm
structure VB (w:Nw) (n:Nat) (b:Br):Prop where
 ok:okB b=true
 ip:b.p=prA w n
 id:b.n=(n:Nat)
 ports:b.ports=(trunkL w.t n).map ofN
 costs:b.costs=costL w.t n
def vBs (w:Nw) (bs:List Bx):Prop:=bs.length=w.bs.length∧∀ n x,bs[n]? = some x→stA w.t n=false→x.z=false∧VB w n x.b
def rcvB (b:Br) (i:Nat) (h:Hd):Bx:=⟨false,true,true,true,putB b (b.heard.set i (rcvH (hrd b i) h))⟩
def rcvP (w:Nw) (bs:List Bx) (p:Nat) (h:Hd):List Bx :=
 if h.is=true∧dnA w (p / 2)=false then bs.set (toP w.t p).toNat (rcvB (bs[(toP w.t p).toNat]?.getD zBx).b (ixP w.t (bk p)) h) else bs
def rcvQ (w:Nw) (s:List Bx × Nat) (p:Nat) (h:Hd):List Bx × Nat:=(rcvP w s.1 p h,if h.is=true∧dnA w (p / 2)=false then w.bs.length else s.2)
theorem okB_all {b:Br} (h:okB b=true):∀ x∈b.heard,okH x:=fun x hx=>okB_heard h hx
theorem hrd_ok {b:Br} (h:okB b=true) (i:Nat):okH (hrd b i):=by
 simp only [hrd]
 cases hq:b.heard[i]? with
 | none=>exact ⟨fun h=>((by cases h)),fun _=>rfl⟩
 | some x=>exact okB_heard h (List.mem_of_getElem? hq)
theorem VB.put {w:Nw} {n:Nat} {b:Br} (h:VB w n b) {hd:List Hd} (hl:hd.length=b.heard.length) (hx:∀ x∈hd,okH x):VB w n (putB b hd):=⟨okB_put h.ok hl hx,h.ip,h.id,h.ports,h.costs⟩
theorem VB.rcv {w:Nw} {n:Nat} {b:Br} (h:VB w n b) (i:Nat) {m:Hd} (hm:helloP m):VB w n (putB b (b.heard.set i (rcvH (hrd b i) m))):=by
 refine h.put (by simp) fun x hx=>?_
 rcases List.mem_or_eq_of_mem_set hx with h1|rfl
 ·exact okB_all h.ok x h1
 ·exact okH_rcv (hrd_ok h.ok i) hm
theorem rcvP_ok {w:Nw} {bs:List Bx} (h:vBs w bs) {p:Nat} {m:Hd} (hm:m.is=true→helloP m) (hp:stA w.t (toP w.t p).toNat=false):vBs w (rcvP w bs p m):=by
 unfold rcvP
 split
 ·rename_i hc
  refine ⟨by simpa using h.1,fun n x hx hs=>?_⟩
  rw [List.getElem?_set] at hx
  split at hx
  ·rename_i hn
   split at hx
   ·rename_i hlt
    obtain rfl:=Option.some.inj hx
    obtain ⟨y,hy⟩:∃ y,bs[(toP w.t p).toNat]? = some y:=⟨bs[(toP w.t p).toNat]'(hlt),by simp [hlt]⟩
    obtain ⟨_,hv⟩:=h.2 _ y hy hp
    rw [hy,← hn]
    exact ⟨rfl,hv.rcv _ (hm hc.1)⟩
   ·cases hx
  ·exact h.2 n x hx hs
 ·exact h
noncomputable def lpRc (rf:Code × Code) (E:FEnv) (busy:Bool):AObj:=.loop 40 (lpEnv 100 (tidyF (some [1,2]) E)) [17,18] rf.1 rf.2 busy none
noncomputable def hpRc (w:Nw) (sent:T) (rf:Code × Code) (E:FEnv) (busy:Bool) (s:List Bx × Nat):Heap :=
 rdH w s.1 s.2 (.t sent) 40++[.row 1 [.ref 6 1 0 0] 0,.row 1 [.t (I 0)] 0,.row 6 [.agg (nwA 3 5 w)] 0,lpRc rf E busy]
theorem hpRc_frz (w:Nw) (sent:T) (rf:Code × Code) (E:FEnv) (hE:E 1=.ref 8 1 0 0∧E 2=.ref 9 1 0 0) (busy:Bool) (s:List Bx × Nat) (h:Heap) (q:Nat) (hq:12≤q):mapO (frzObj h (fromB q)) (hpRc w sent rf E busy s)=some (hpRc w sent rf E busy s):=by
 have f8:decide (q≤8)=false:=decide_eq_false (by omega)
 have f9:decide (q≤9)=false:=decide_eq_false (by omega)
 have f3:decide (q≤3)=false:=decide_eq_false (by omega)
 have f5:decide (q≤5)=false:=decide_eq_false (by omega)
 have f6:decide (q≤6)=false:=decide_eq_false (by omega)
 have h1:frzObj h (fromB q) (lpRc rf E busy)=some (lpRc rf E busy):=by
  rw [lpRc,frz_loop]
  simp only [go_sem,hE,f8,f9]
 have a1:avoidAll (fromB q) [.agg (nwA 3 5 w)]=true:=by simp [nwA,avoidAll,avoid,fromB,f3,f5]
 have a2:avoidAll (fromB q) [.agg (nwA 3 5 w++[.t sent])]=true:=by simp [nwA,avoidAll,avoid,fromB,f3,f5]
 have a3:avoidAll (fromB q) [.ref 6 1 0 0]=true:=by simp [avoidAll,avoid,fromB,f6]
 have a4:∀ x:T,avoidAll (fromB q) [.t x]=true:=fun x=>by simp [avoidAll,avoid]
 simp only [hpRc,rdH,List.cons_append,List.nil_append,dnRow,bsRow,mapO,h1,frz_mapA,frz_rowA a1,frz_rowA a2,frz_rowA a3,frz_rowA (a4 _)]
theorem foldl_eq {α β:Type} {f g:β→α→β}:∀ (l:List α) (s:β),(∀ s,∀ a∈l,f s a=g s a)→l.foldl f s=l.foldl g s:=by
 intro l
 induction l with
 | nil=>intro s _; rfl
 | cons a l ih=>intro s h; rw [List.foldl_cons,List.foldl_cons,h s a (by simp)]; exact ih _ (fun s b hb=>h s b (by simp [hb]))
theorem rcv_l0 (w:Nw) (hok:okT w.t=true) (hd:w.down.length=w.t.links.length) (hbl:(w.bs.length:Int)=w.t.nodes) (sent:T) (rf:Code × Code) (E:FEnv) (hE:E 1=.ref 8 1 0 0∧E 2=.ref 9 1 0 0) (c1 c2 c3:Bool) (b:Br) (n:Nat) (hpo:b.ports=(trunkL w.t n).map ofN) (hnn:stA w.t n=false)
  (hs:List Hd) (hl:hs.length=(trunkL w.t n).length) (hh:∀ h∈hs,h.is=true→helloP h) (s:List Bx × Nat) (hv:vBs w s.1) (hmr:s.2≤w.bs.length) (dd nn:Nat) (hn:200 < nn) (R:Xit→FEnv→Heap→Prop) (e:FEnv)
  (he:e 1=.ref 8 1 0 0∧e 2=.ref 9 1 0 0∧e 4=.ref 13 1 0 0∧e 25=.t (.sl true 8 (hs.map encH))∧e 26=.t (I (hs.length:Nat))∧e 27=.t (I 0))
  (hR:∀ e,(e 1=.ref 8 1 0 0∧e 2=.ref 9 1 0 0)→R (.exit 2) e (hpRc w sent rf E true ((List.range hs.length).foldl (fun s i=>rcvQ w s ((trunkL w.t n)[i]?.getD 0) (hs[i]?.getD zH)) s)++[.row 5 [.t (.agg (brC c1 c2 c3 b))] 1,.row 5 [.t (.agg (brC c1 c2 c3 b))] 1])) :
  wpIter 14 (some [1,2,4,25,26,27]) (wc Try.prog pol (ans Try.prog pol) (inl Try.prog pol (ans Try.prog pol) nn dd) nn 40 il40l0) R nn e (hpRc w sent rf E true s++[.row 5 [.t (.agg (brC c1 c2 c3 b))] 1,.row 5 [.t (.agg (brC c1 c2 c3 b))] 1]):=by
 obtain ⟨z1,z2,z3⟩:=okT_size hok
 refine loop_range hs encH (step:=fun i h s=>.go (rcvQ w s ((trunkL w.t n)[i]?.getD 0) h)) (fin:=id)
  (St:=fun i s e h=>(e 1=.ref 8 1 0 0∧e 2=.ref 9 1 0 0∧e 4=.ref 13 1 0 0∧e 25=.t (.sl true 8 (hs.map encH))∧e 26=.t (I (hs.length:Nat))∧e 27=.t (I (i:Nat)))∧(vBs w s.1∧s.2≤w.bs.length)∧h=hpRc w sent rf E true s++[.row 5 [.t (.agg (brC c1 c2 c3 b))] 1,.row 5 [.t (.agg (brC c1 c2 c3 b))] 1])
  (Ex:=fun s x e h=>(e 1=.ref 8 1 0 0∧e 2=.ref 9 1 0 0)∧x=.exit 2∧h=hpRc w sent rf E true s++[.row 5 [.t (.agg (brC c1 c2 c3 b))] 1,.row 5 [.t (.agg (brC c1 c2 c3 b))] 1]) (s:=s) (by have:=trunk_len w.t n; omega) ?_ ?_ (by have:=trunk_len w.t n; omega) ⟨he,⟨hv,hmr⟩,rfl⟩ ?_
 ·intro i h ss e hp Y R hm hi hx hget hlt hw ⟨hs',⟨hv,hmr⟩,hhp⟩ hk
  subst hhp
  obtain ⟨s,mr⟩:=ss
  dsimp only at hv hmr
  simp only [ctlK_go] at hk
  obtain ⟨p,hp⟩:∃ p,(trunkL w.t n)[i]? = some p:=⟨(trunkL w.t n)[i]'(by omega),by simp [show i < (trunkL w.t n).length by omega]⟩
  rw [hp] at hk
  simp only [Option.getD_some] at hk
  have hpm:=mem_trunk.1 (List.mem_of_getElem? hp)
  obtain ⟨p1,p2,p3⟩:=hpm
  have gp:(b.ports.map I)[i]? = some (I (ofN p)):=by rw [hpo]; simp [hp]
  have hj:p / 2 < w.down.length:=by omega
  have gd:((w.down.map B).map AV.t)[p / 2]? = some (.t (B (dnA w (p / 2)))):=map_get (enc:=B) (by simp [dnA,hj])
  have v2:IntKind.i64.wrap (Int.tdiv (p:Nat) 2)=((p / 2:Nat):Int):=by rw [tdiv2]; exact wrap_i64 (by omega) (by omega)
  have fzl:∀ hx:Heap,frzObj hx (fromB 14) (lpRc rf E true)=some (lpRc rf E true):=fun hx=>by
   rw [lpRc,frz_loop]
   simp only [go_sem,hE]
  have hdl:((w.down.map B).map AV.t).length=w.down.length:=by simp
  simp only [hpRc,rdH,List.cons_append,List.nil_append,nwA,bsRow,dnRow] at hk ⊢
  cases his:h.is with
  | false =>
   have hr:rcvQ w (s,mr) p h=(s,mr):=by rw [rcvQ,if_neg (by simp [his]),rcvP,if_neg (by simp [his])]
   rw [hr] at hk
   obtain ⟨hi0,h1,h2,h3,h4,h5,h6,h7⟩:=h
   dsimp only at his
   subst his
   (repeat' first|simp only [il40l0_go,il40l0b,go_sem,hs',hget,encH_cells,hlt,hw,gp,ofN,frz_mapA,fzl]|(with_reducible first|apply wD|apply wT|(apply wM; intro)|(apply wL; intro))|((with_reducible first|refine wA ?_ ?_|refine wE ?_); rfl))
   all_goals (refine hk _ _ ⟨?_,⟨hv,hmr⟩,?_⟩ <;> simp only [go_sem,hs',hw])
  | true =>
   cases hdn:dnA w (p / 2) with
   | true =>
    have hr:rcvQ w (s,mr) p h=(s,mr):=by rw [rcvQ,if_neg (by simp [hdn]),rcvP,if_neg (by simp [hdn])]
    rw [hr] at hk
    rw [hdn] at gd
    obtain ⟨hi0,h1,h2,h3,h4,h5,h6,h7⟩:=h
    dsimp only at his
    subst his
    (repeat' first|simp only [il40l0_go,il40l0b,go_sem,hs',hget,encH_cells,hlt,hw,gp,ofN,v2,gd,hj,hdl,frz_mapA,fzl]|(with_reducible first|apply wD|apply wT|(apply wM; intro)|(apply wL; intro))|((with_reducible first|refine wA ?_ ?_|refine wE ?_); rfl))
    all_goals (refine hk _ _ ⟨?_,⟨hv,hmr⟩,?_⟩ <;> simp only [go_sem,hs',hw])
   | false =>
    rw [hdn] at gd
    have hhp:=hh h hm his
    obtain ⟨q1,q2⟩:=toP_node hok p1
    obtain ⟨m,hmn⟩:∃ m:Nat,toP w.t p=(m:Nat):=⟨(toP w.t p).toNat,by omega⟩
    have hmN:(toP w.t p).toNat=m:=by omega
    rw [hmN] at p3
    have hml:m < w.bs.length:=by omega
    obtain ⟨y,hy⟩:∃ y,s[m]? = some y:=⟨s[m]'(by rw [hv.1]; exact hml),by simp [hv.1,hml]⟩
    obtain ⟨yz,yv⟩:=hv.2 m y hy p3
    have hrq:rcvQ w (s,mr) p h=(rcvP w s p h,w.bs.length):=by rw [rcvQ,if_pos ⟨his,hdn⟩]
    rw [hrq] at hk
    have hv':=rcvP_ok (p:=p) (m:=h) hv (hh h hm) (by rw [hmN]; exact p3)
    have hrc:rcvP w s p h=s.set m (rcvB y.b (ixP w.t (bk p)) h):=by rw [rcvP,if_pos ⟨his,hdn⟩,hmN,hy]; rfl
    have hbk:bk p∈trunkL w.t (frP w.t (bk p)):=mem_trunk.2 ⟨bk_lt p1,rfl,by rw [bk_to,p2]; simpa using hnn⟩
    obtain ⟨x1,x2,x3⟩:=ixP_spec hbk
    rw [bk_fr,hmn] at x1 x3
    have k2:=other_ans ⟨false,false,false,false,true⟩ ⟨w.t,w.prios,w.down,s⟩ p hok p1
    rw [hmn] at k2
    obtain ⟨yz',d1,d2,d3,yb⟩:=y
    dsimp only at yz yv hrc
    subst yz
    have hyp:=yv.ports
    have k3:=indexI_ans d1 yb.ports (ofN (bk p)) (by rw [hyp]; have:=trunk_len w.t m; simp; omega)
    have hidx:idxL (ofN (bk p)) 0 yb.ports=((ixP w.t (bk p):Nat):Int):=by rw [hyp]; exact x3
    rw [hidx] at k3
    have hix:ixP w.t (bk p) < yb.ports.length:=by rw [hyp]; simpa using x1
    have k4:=Receive_ok d1 d2 d3 yb (ixP w.t (bk p)) h yv.ok hix hhp
    have gx:((s.map encX).map AV.t)[m]? = some (.t (.agg (brC d1 d2 d3 yb))):=map_get (enc:=encX) hy
    have hsl:((s.map encX).map AV.t).length=w.bs.length:=by simp [hv.1]
    have hset:=map_set (enc:=encX) (l:=s) (i:=m) (x:=rcvB yb (ixP w.t (bk p)) h)
    rw [← hrc] at hset
    have hex:encX (rcvB yb (ixP w.t (bk p)) h)=brT true true true (putB yb (yb.heard.set (ixP w.t (bk p)) (rcvH (hrd yb (ixP w.t (bk p))) h))):=rfl
    rw [hex] at hset
    have hx1:=xor1 p (by omega)
    have hav:∀ (q:Nat→Bool) (y:T),avoidAll q (((s.map encX).map AV.t).set m (.t y))=true:=fun q y=>by rw [← List.map_set,av_map]
    rw [← hset] at hk
    generalize putB yb (yb.heard.set (ixP w.t (bk p)) (rcvH (hrd yb (ixP w.t (bk p))) h))=B' at *
    generalize ixP w.t (bk p)=ix at *
    obtain ⟨hi0,h1,h2,h3,h4,h5,h6,h7⟩:=h
    dsimp only at his
    subst his
    (repeat' first|simp only [il40l0_go,il40l0b,go_sem,hs',hget,encH_cells,hlt,hw,gp,ofN,v2,gd,hj,hdl,hsl,k2,k3,k4,gx,hml,hmr,hx1,hav,frz_mapA,fzl]|(with_reducible first|apply wD|apply wT|(apply wM; intro)|(apply wL; intro))|((with_reducible first|refine wA ?_ ?_|refine wE ?_); rfl))
    all_goals (refine hk _ _ ⟨?_,⟨hv',Nat.le_refl _⟩,?_⟩ <;> simp only [go_sem,hs',hw])
 ·intro s e h Y R hlt ⟨hs',_,hh⟩ hk
  subst hh
  (repeat' first|simp only [il40l0_go,il40l0b,go_sem,hs',hlt]|(with_reducible first|apply wD|apply wT|(apply wM; intro)|(apply wL; intro))|((with_reducible first|refine wA ?_ ?_|refine wE ?_); rfl))
  all_goals (refine hk _ _ _ ⟨?_,rfl,rfl⟩; simp only [go_sem,hs',id])
 ·intro x e h ⟨h1,h2,h3⟩
  have hf:∀ (r:List Hd) (i:Nat) (s:List Bx × Nat),foldC (ρ:=List Bx × Nat) (fun i h s=>Ctl.go (rcvQ w s ((trunkL w.t n)[i]?.getD 0) h)) id i r s=(List.range' i r.length).foldl (fun s k=>rcvQ w s ((trunkL w.t n)[k]?.getD 0) (r[k - i]?.getD zH)) s:=by
   intro r
   induction r with
   | nil=>intro i s; rfl
   | cons x r ih =>
    intro i s
    rw [foldC_go (s':=rcvQ w s ((trunkL w.t n)[i]?.getD 0) x) rfl,ih,List.length_cons,List.range'_succ,List.foldl_cons]
    simp only [Nat.sub_self,List.getElem?_cons_zero,Option.getD_some]
    refine foldl_eq _ _ fun s k hk=>?_
    rw [List.mem_range'_1] at hk
    obtain ⟨j,rfl⟩:∃ j,k=i+1+j:=⟨k - (i+1),by omega⟩
    rw [show i+1+j - (i+1)=j by omega,show i+1+j - i=j+1 by omega,List.getElem?_cons_succ]
  rw [hf,← List.range_eq_range'] at h3
  simp only [Nat.sub_zero] at h3
  subst h2 h3
  exact hR _ h1
end Go.Proofs.Ytbibdnlbpjnieaa
namespace Go.Proofs.Ytbibdnlbpjnieaa
open Go Go.Abs
def sentOk (w:Nw) (S:List (Option (List Hd))):Prop:=S.length=w.bs.length∧∀ n,n < w.bs.length→stA w.t n=false→∃ hs,S[n]? = some (some hs)∧hs.length=(trunkL w.t n).length∧∀ h∈hs,h.is=true→helloP h
def rcvN (w:Nw) (S:List (Option (List Hd))) (s:List Bx × Nat) (n:Nat):List Bx × Nat :=
 (List.range ((S[n]?.getD none).getD []).length).foldl (fun s i=>rcvQ w s ((trunkL w.t n)[i]?.getD 0) (((S[n]?.getD none).getD [])[i]?.getD zH)) s
abbrev sentT (S:List (Option (List Hd))):T:=.sl true 1 (S.map encS)
theorem rcvQ_ok {w:Nw} {s:List Bx × Nat} (h:vBs w s.1) (h2:s.2≤w.bs.length) {p:Nat} {m:Hd} (hm:m.is=true→helloP m) (hp:stA w.t (toP w.t p).toNat=false):vBs w (rcvQ w s p m).1∧(rcvQ w s p m).2≤w.bs.length:=by
 refine ⟨rcvP_ok h hm hp,?_⟩
 unfold rcvQ
 dsimp only
 split <;> omega
theorem rcvN_ok {w:Nw} {S:List (Option (List Hd))} (hS:sentOk w S) {s:List Bx × Nat} (h:vBs w s.1) (h2:s.2≤w.bs.length) {n:Nat} (hn:n < w.bs.length) (hst:stA w.t n=false):vBs w (rcvN w S s n).1∧(rcvN w S s n).2≤w.bs.length:=by
 obtain ⟨hs,h1,hl,hh⟩:=hS.2 n hn hst
 rw [rcvN,h1]
 simp only [Option.getD_some]
 have key:∀ (k:Nat),k≤hs.length→vBs w ((List.range k).foldl (fun s i=>rcvQ w s ((trunkL w.t n)[i]?.getD 0) (hs[i]?.getD zH)) s).1∧((List.range k).foldl (fun s i=>rcvQ w s ((trunkL w.t n)[i]?.getD 0) (hs[i]?.getD zH)) s).2≤w.bs.length:=by
  intro k
  induction k with
  | zero=>intro _; exact ⟨h,h2⟩
  | succ k ih =>
   intro hk
   obtain ⟨i1,i2⟩:=ih (by omega)
   rw [List.range_succ,List.foldl_append,List.foldl_cons,List.foldl_nil]
   obtain ⟨p,hp⟩:∃ p,(trunkL w.t n)[k]? = some p:=⟨(trunkL w.t n)[k]'(by omega),by simp [show k < (trunkL w.t n).length by omega]⟩
   obtain ⟨x,hx⟩:∃ x,hs[k]? = some x:=⟨hs[k]'(by omega),by simp [show k < hs.length by omega]⟩
   rw [hp,hx]
   exact rcvQ_ok i1 i2 (hh x (List.mem_of_getElem? hx)) (mem_trunk.1 (List.mem_of_getElem? hp)).2.2
 exact key hs.length (Nat.le_refl _)
theorem receive_yield (rf:Code × Code) (hrf:rfOf Try.prog 40 0=rf) (w:Nw) (hok:okT w.t=true) (hd:w.down.length=w.t.links.length) (hbl:(w.bs.length:Int)=w.t.nodes) (S:List (Option (List Hd))) (hS:sentOk w S)
  (E:FEnv) (hE:E 1=.ref 8 1 0 0∧E 2=.ref 9 1 0 0) (s:List Bx × Nat) (hv:vBs w s.1) (hmr:s.2≤w.bs.length) (n:Nat) (x:Bx) (hx:s.1[n]? = some x) (hst:stA w.t n=false) (dd nn:Nat) (hn:200 < nn) (Q:AV→Heap→Prop)
  (hQ:∀ X',Q (.t (B true)) (hpRc w (sentT S) rf E false (rcvN w S s n)++[.row 5 [.t (.agg (bxC x))] 1]++X')) :
  oB (inl Try.prog pol (ans Try.prog pol) nn (dd+1) (.yl 11) [.t (I (n:Nat)),.t (.agg (bxC x))] (hpRc w (sentT S) rf E false s++[.row 5 [.t (.agg (bxC x))] 1])) Q:=by
 subst hrf
 obtain ⟨xz,xv⟩:=hv.2 n x hx hst
 obtain ⟨z,c1,c2,c3,b⟩:=x
 dsimp only at xz xv hQ
 subst xz
 have hbc:bxC ⟨false,c1,c2,c3,b⟩=brC c1 c2 c3 b:=rfl
 rw [hbc] at hQ ⊢
 have hnl:n < w.bs.length:=by rw [← hv.1]; exact (List.getElem?_eq_some_iff.1 hx).1
 obtain ⟨hs,hs1,hsl,hsh⟩:=hS.2 n hnl hst
 have gs:(S.map encS)[n]? = some (.sl true 8 (hs.map encH)):=by rw [List.getElem?_map,hs1]; rfl
 have hcs:(T.sl true 8 (hs.map encH)).cells=[.sl true 8 (hs.map encH)]:=rfl
 have hr:rcvN w S s n=(List.range hs.length).foldl (fun s i=>rcvQ w s ((trunkL w.t n)[i]?.getD 0) (hs[i]?.getD zH)) s:=by rw [rcvN,hs1]; rfl
 have hq:=hQ [.row 5 [.t (.agg (brC c1 c2 c3 b))] 1]
 rw [hr] at hq
 have key:([.row 6 [.t zN6] 0,.row 3 [.t stepsT] 1,.row 6 [.agg (nwA 3 5 w)] 1,dnRow w,.row 6 [.agg (nwA 3 5 w)] 1,bsRow s.1 s.2,.row 7 [.agg (nwA 3 5 w++[.t (sentT S)])] 1,.row 1 [.t (.agg [.fn (.func 40) [] []])] 1,
  .row 1 [.ref 6 1 0 0] 0,.row 1 [.t (I 0)] 0,.row 6 [.agg (nwA 3 5 w)] 0,.loop 40 (lpEnv 100 (tidyF (some [1,2]) E)) [17,18] (rfOf Try.prog 40 0).1 (rfOf Try.prog 40 0).2 true none,.row 5 [.t (.agg (brC c1 c2 c3 b))] 1,.row 5 [.t (.agg (brC c1 c2 c3 b))] 1]:Heap)
   = hpRc w (sentT S) (rfOf Try.prog 40 0) E true s++[.row 5 [.t (.agg (brC c1 c2 c3 b))] 1,.row 5 [.t (.agg (brC c1 c2 c3 b))] 1]:=rfl
 have hR:=fun (R:Xit→FEnv→Heap→Prop) (e:FEnv) he hR=>rcv_l0 w hok hd hbl (sentT S) (rfOf Try.prog 40 0) E hE c1 c2 c3 b n xv.ports hst hs hsl hsh s hv hmr dd nn hn R e he hR
 rw [← key] at hR
 generalize (List.range hs.length).foldl (fun s i=>rcvQ w s ((trunkL w.t n)[i]?.getD 0) (hs[i]?.getD zH)) s=s2 at *
 simp only [hpRc,rdH,lpRc,List.cons_append,List.nil_append,nwA,bsRow,dnRow] at hq hR ⊢
 refine oB_yl (E:=tidyF (some [1,2]) E) rfl rfl rfl il40r0a_eq il40r0b_eq ?_
 (repeat' first|simp only [il40r0a,il40r0b,go_sem,hE,gs,hcs]|(with_reducible first|apply wD|apply wT|(apply wM; intro)|(apply wL; intro))|((with_reducible first|refine wA ?_ ?_|refine wE ?_); rfl))
 refine hR _ _ (by simp only [go_sem,hE]) ?_
 intro e he
 (repeat' first|simp only [il40r0b,go_sem,he]|(with_reducible first|apply wD|apply wT|(apply wM; intro)|(apply wL; intro))|((with_reducible first|refine wA ?_ ?_|refine wE ?_); rfl))
 all_goals exact hq
theorem stS_ok {w:Nw} {nx:List Bx × Nat→Nat→List Bx × Nat} (hnx:∀ s n,n < w.bs.length→stA w.t n=false→vBs w s.1∧s.2≤w.bs.length→vBs w (nx s n).1∧(nx s n).2≤w.bs.length) {s:List Bx × Nat} {n:Nat} (hn:n < w.bs.length) (h:vBs w s.1∧s.2≤w.bs.length):vBs w (stS w.t nx s n).1∧(stS w.t nx s n).2≤w.bs.length:=by
 unfold stS
 by_cases q:stA w.t n=true
 ·rw [if_pos q]; exact h
 ·rw [if_neg q]; exact hnx s n hn (by simpa using q) h
theorem fold_ok {w:Nw} {nx:List Bx × Nat→Nat→List Bx × Nat} (hnx:∀ s n,n < w.bs.length→stA w.t n=false→vBs w s.1∧s.2≤w.bs.length→vBs w (nx s n).1∧(nx s n).2≤w.bs.length) {s:List Bx × Nat} (h:vBs w s.1∧s.2≤w.bs.length):∀ k,k≤w.bs.length→vBs w ((List.range k).foldl (stS w.t nx) s).1∧((List.range k).foldl (stS w.t nx) s).2≤w.bs.length:=by
 intro k
 induction k with
 | zero=>intro _; exact h
 | succ k ih =>
  intro hk
  rw [List.range_succ,List.foldl_append,List.foldl_cons,List.foldl_nil]
  exact stS_ok hnx (by omega) (ih (by omega))
theorem receive_ok (w:Nw) (hok:okT w.t=true) (hd:w.down.length=w.t.links.length) (hbl:(w.bs.length:Int)=w.t.nodes) (S:List (Option (List Hd))) (hS:sentOk w S) (bs:List Bx) (mr:Nat) (hmr:mr≤w.bs.length) (hv:vBs w bs) (dd nn:Nat) (hn:200 < nn) (Q:AV→Heap→Prop)
  (hQ:Q (.t (I 0)) (rdH w ((List.range w.bs.length).foldl (stS w.t (rcvN w S)) (bs,mr)).1 ((List.range w.bs.length).foldl (stS w.t (rcvN w S)) (bs,mr)).2 (.t (sentT S)) 40++[.row 1 [.ref 6 1 0 0] 0,.row 1 [.t (I 0)] 1,.row 6 [.agg (nwA 3 5 w)] 0])) :
  oB (inl Try.prog pol (ans Try.prog pol) nn (dd+3) (.fn 40) [.ref 6 1 0 0] (rdH w bs mr (.t (sentT S)) 40)) Q:=by
 obtain ⟨z1,z2,z3⟩:=okT_size hok
 refine oB_inl il40_eq (Nat.le_of_ble_eq_true rfl) ?_
 simp only [il40c]
 generalize hrf:rfOf Try.prog 40 0=rf
 simp only [rdH,nwA]
 (repeat' first|simp only [List.cons_append,List.nil_append,go_sem]|(with_reducible first|apply wD|apply wT|(apply wM; intro)|(apply wL; intro))|((with_reducible first|refine wA ?_ ?_|refine wE ?_); rfl)|((with_reducible refine oB_inl il26_eq ?_ ?_); exact Nat.le_of_ble_eq_true rfl; simp only [il26c]))
 have key:∀ E:FEnv,([.row 6 [.t zN6] 0,.row 3 [.t stepsT] 1,.row 6 [.agg (nwA 3 5 w)] 1,dnRow w,.row 6 [.agg (nwA 3 5 w)] 1,bsRow bs mr,.row 7 [.agg (nwA 3 5 w++[.t (sentT S)])] 1,.row 1 [.t (.agg [.fn (.func 40) [] []])] 1,
  .row 1 [.ref 6 1 0 0] 0,.row 1 [.t (I 0)] 0,.row 6 [.agg (nwA 3 5 w)] 0,.loop 40 (lpEnv 100 (tidyF (some [1,2]) E)) [17,18] rf.1 rf.2 false none]:Heap)=hpRc w (sentT S) rf E false (bs,mr):=fun E=>rfl
 simp only [nwA,List.cons_append,List.nil_append] at key
 rw [key]
 have h1112:11 < 12:=by omega
 have h1012:10 < 12:=by omega
 have h512:5 < 12:=by omega
 have h01:0≤1:=by omega
 have hI0:vBs w (bs,mr).1∧(bs,mr).2≤w.bs.length:=⟨hv,hmr⟩
 have hb100:w.bs.length≤100:=by omega
 have hnx:∀ (s:List Bx × Nat) n,n < w.bs.length→stA w.t n=false→vBs w s.1∧s.2≤w.bs.length→vBs w (rcvN w S s n).1∧(rcvN w S s n).2≤w.bs.length:=fun s n hn hs h=>rcvN_ok hS h.1 h.2 hn hs
 have hfold:=fold_ok hnx hI0 w.bs.length (Nat.le_refl _)
 -- the state,held to what is valid
 let σ:={ s:List Bx × Nat // vBs w s.1∧s.2≤w.bs.length }
 let nx:σ→Nat→σ:=fun s n=>if h:n < w.bs.length∧stA w.t n=false then ⟨rcvN w S s.1 n,hnx s.1 n h.1 h.2 s.2⟩ else s
 have hnxv:∀ (s:σ) n,n < w.bs.length→stA w.t n=false→(nx s n).1=rcvN w S s.1 n:=fun s n h1 h2=>by simp only [nx]; rw [dif_pos ⟨h1,h2⟩]
 have hstv:∀ (s:σ) n,n < w.bs.length→(stS w.t nx s n).1=stS w.t (rcvN w S) s.1 n:=fun s n h1=>by
  unfold stS
  by_cases q:stA w.t n=true
  ·rw [if_pos q,if_pos q]
  ·rw [if_neg q,if_neg q]; exact hnxv s n h1 (by simpa using q)
 have hfv:∀ (s:σ) k,k≤w.bs.length→((List.range k).foldl (stS w.t nx) s).1=(List.range k).foldl (stS w.t (rcvN w S)) s.1:=by
  intro s k
  induction k with
  | zero=>intro _; rfl
  | succ k ih =>
   intro hk
   rw [List.range_succ,List.foldl_append,List.foldl_append,List.foldl_cons,List.foldl_cons,List.foldl_nil,List.foldl_nil,hstv _ _ (by omega),ih (by omega)]
 have hLs:∀ s:σ,s.1.1.length=w.bs.length:=fun s=>by have h:=s.2.1; unfold vBs at h; exact h.1
 have hs0:∀ E:FEnv,hpRc w (sentT S) rf E false (bs,mr)=(fun s:σ=>hpRc w (sentT S) rf E false s.1) ⟨(bs,mr),hI0⟩:=fun E=>rfl
 rw [hs0]
 with_reducible refine all_iterR (fun s:σ=>hpRc w (sentT S) rf _ false s.1) 12 (fun s=>rfl) nx (dd+1) nn 11 (fun n s=>True) w (fun _ _ _ _=>trivial) ?_ h1112 10 3 5 0 h1012 h01 h512 (fun s=>s.1.1) (fun s=>s.1.2) hLs (fun s=>s.2.2) (fun _ _=>rfl) (fun _ _=>rfl) z2 hbl hb100 ?_ ⟨(bs,mr),hI0⟩ trivial _ hn ?_
 ·intro s h q hq
  exact hpRc_frz w (sentT S) rf _ (by simp only [go_sem]) false s.1 h q hq
 ·intro s n x Q hx hs _ hQ
  have hnl:n < w.bs.length:=by rw [← hLs s]; exact (List.getElem?_eq_some_iff.1 hx).1
  have hQ':∀ X',Q (.t (B true)) (hpRc w (sentT S) rf _ false (nx s n).1++[.row 5 [.t (.agg (bxC x))] 1]++X'):=hQ
  rw [hnxv s n hnl hs] at hQ'
  exact receive_yield rf hrf w hok hd hbl S hS _ (by simp only [go_sem]) s.1 s.2.1 s.2.2 n x hx hs dd nn hn Q hQ'
 ·intro v
  change rfEnd _ _ _ v (hpRc w (sentT S) rf _ false ((List.range w.bs.length).foldl (stS w.t nx) ⟨(bs,mr),hI0⟩).1)
  rw [hfv _ _ (Nat.le_refl _)]
  generalize (List.range w.bs.length).foldl (stS w.t (rcvN w S)) (bs,mr)=s at *
  simp only [hpRc,rdH,lpRc,List.cons_append,List.nil_append,nwA,bsRow,dnRow] at hQ ⊢
  (repeat' first|simp only [il40c,go_sem,frz_mapA]|(with_reducible first|apply wD|apply wT|(apply wM; intro)|(apply wL; intro))|((with_reducible first|refine wA ?_ ?_|refine wE ?_); rfl))
  all_goals exact hQ
end Go.Proofs.Ytbibdnlbpjnieaa
namespace Go.Proofs.Ytbibdnlbpjnieaa
open Go Go.Abs
def tkB (b:Br):Bx:=⟨false,true,true,true,putB b (b.heard.map tickH)⟩
def tkN (w:Nw) (s:List Bx × Nat) (n:Nat):List Bx × Nat:=(s.1.set n (tkB (s.1[n]?.getD zBx).b),w.bs.length)
theorem VB.tick {w:Nw} {n:Nat} {b:Br} (h:VB w n b):VB w n (putB b (b.heard.map tickH)):=by
 refine h.put (by simp) fun x hx=>?_
 obtain ⟨y,hy,rfl⟩:=List.mem_map.1 hx
 exact okH_tick (okB_all h.ok y hy)
theorem tkN_ok {w:Nw} {s:List Bx × Nat} (h:vBs w s.1) (h2:s.2≤w.bs.length) {n:Nat} (hn:n < w.bs.length) (hst:stA w.t n=false):vBs w (tkN w s n).1∧(tkN w s n).2≤w.bs.length:=by
 refine ⟨⟨by simp [tkN,h.1],fun m x hx hs=>?_⟩,Nat.le_refl _⟩
 simp only [tkN,List.getElem?_set] at hx
 split at hx
 ·rename_i hm
  split at hx
  ·rename_i hlt
   obtain rfl:=Option.some.inj hx
   subst hm
   obtain ⟨y,hy⟩:∃ y,s.1[n]? = some y:=⟨s.1[n]'hlt,by simp [hlt]⟩
   obtain ⟨_,hv⟩:=h.2 n y hy hst
   rw [hy]
   exact ⟨rfl,hv.tick⟩
  ·cases hx
 ·exact h.2 m x hx hs
noncomputable def lpTk (rf:Code × Code) (E:FEnv) (busy:Bool):AObj:=.loop 41 (lpEnv 31 (tidyF (some [1,2]) E)) [12,13] rf.1 rf.2 busy none
noncomputable def hpTk (w:Nw) (sent:T) (rf:Code × Code) (E:FEnv) (s:List Bx × Nat):Heap :=
 rdH w s.1 s.2 (.t sent) 41++[.row 1 [.ref 6 1 0 0] 0,.row 1 [.t (I 0)] 0,.row 6 [.agg (nwA 3 5 w)] 0,lpTk rf E false]
theorem hpTk_frz (w:Nw) (sent:T) (rf:Code × Code) (E:FEnv) (hE:E 1=.ref 8 1 0 0∧E 2=.ref 9 1 0 0) (s:List Bx × Nat) (h:Heap) (q:Nat) (hq:12≤q):mapO (frzObj h (fromB q)) (hpTk w sent rf E s)=some (hpTk w sent rf E s):=by
 have f8:decide (q≤8)=false:=decide_eq_false (by omega)
 have f9:decide (q≤9)=false:=decide_eq_false (by omega)
 have f3:decide (q≤3)=false:=decide_eq_false (by omega)
 have f5:decide (q≤5)=false:=decide_eq_false (by omega)
 have f6:decide (q≤6)=false:=decide_eq_false (by omega)
 have h1:frzObj h (fromB q) (lpTk rf E false)=some (lpTk rf E false):=by
  rw [lpTk,frz_loop]
  simp only [go_sem,hE,f8,f9]
 have a1:avoidAll (fromB q) [.agg (nwA 3 5 w)]=true:=by simp [nwA,avoidAll,avoid,fromB,f3,f5]
 have a2:avoidAll (fromB q) [.agg (nwA 3 5 w++[.t sent])]=true:=by simp [nwA,avoidAll,avoid,fromB,f3,f5]
 have a3:avoidAll (fromB q) [.ref 6 1 0 0]=true:=by simp [avoidAll,avoid,fromB,f6]
 have a4:∀ x:T,avoidAll (fromB q) [.t x]=true:=fun x=>by simp [avoidAll,avoid]
 simp only [hpTk,rdH,List.cons_append,List.nil_append,dnRow,bsRow,mapO,h1,frz_mapA,frz_rowA a1,frz_rowA a2,frz_rowA a3,frz_rowA (a4 _)]
theorem tick_yield (rf:Code × Code) (hrf:rfOf Try.prog 41 0=rf) (w:Nw) (hb100:w.bs.length≤100) (sent:T)
  (E:FEnv) (hE:E 1=.ref 8 1 0 0∧E 2=.ref 9 1 0 0) (s:List Bx × Nat) (hv:vBs w s.1) (hmr:s.2≤w.bs.length) (n:Nat) (x:Bx) (hx:s.1[n]? = some x) (hst:stA w.t n=false) (dd nn:Nat) (hn:200 < nn) (Q:AV→Heap→Prop)
  (hQ:∀ X',Q (.t (B true)) (hpTk w sent rf E (tkN w s n)++[.row 5 [.t (.agg (bxC x))] 1]++X')) :
  oB (inl Try.prog pol (ans Try.prog pol) nn (dd+1) (.yl 11) [.t (I (n:Nat)),.t (.agg (bxC x))] (hpTk w sent rf E s++[.row 5 [.t (.agg (bxC x))] 1])) Q:=by
 subst hrf
 obtain ⟨xz,xv⟩:=hv.2 n x hx hst
 have hnl:n < w.bs.length:=by rw [← hv.1]; exact (List.getElem?_eq_some_iff.1 hx).1
 obtain ⟨z,c1,c2,c3,b⟩:=x
 dsimp only at xz xv hQ
 subst xz
 have hbc:bxC ⟨false,c1,c2,c3,b⟩=brC c1 c2 c3 b:=rfl
 rw [hbc] at hQ ⊢
 have k1:=Tick_ok (c1:=c1) (c2:=c2) (c3:=c3) (b:=b) xv.ok
 have hb5:(T.agg (brC c1 c2 c3 b)).cells=brC c1 c2 c3 b:=rfl
 have hset:=map_set (enc:=encX) (l:=s.1) (i:=n) (x:=tkB b)
 have hex:encX (tkB b)=brT true true true (putB b (b.heard.map tickH)):=rfl
 rw [hex] at hset
 have hsl:((s.1.map encX).map AV.t).length=w.bs.length:=by simp [hv.1]
 have gx:((s.1.map encX).map AV.t)[n]? = some (.t (.agg (brC c1 c2 c3 b))):=map_get (enc:=encX) hx
 have hr:tkN w s n=(s.1.set n (tkB b),w.bs.length):=by rw [tkN,hx]; rfl
 have hav:∀ (q:Nat→Bool) (y:T),avoidAll q (((s.1.map encX).map AV.t).set n (.t y))=true:=fun q y=>by rw [← List.map_set,av_map]
 have hq:=hQ
 rw [hr] at hq
 simp only [hpTk,rdH,lpTk,List.cons_append,List.nil_append,nwA,bsRow,dnRow] at hq ⊢
 rw [← hset] at hq
 generalize putB b (b.heard.map tickH)=B' at *
 refine oB_yl (E:=tidyF (some [1,2]) E) rfl rfl rfl il41r0a_eq il41r0b_eq ?_
 (repeat' first|simp only [il41r0a,il41r0b,go_sem,hE,k1,hb5,gx,hsl,hnl,hmr,hav]|(with_reducible first|apply wD|apply wT|(apply wM; intro)|(apply wL; intro))|((with_reducible first|refine wA ?_ ?_|refine wE ?_); rfl))
 all_goals exact hq _
theorem tick_ok (w:Nw) (hok:okT w.t=true) (hbl:(w.bs.length:Int)=w.t.nodes) (sent:T) (bs:List Bx) (mr:Nat) (hmr:mr≤w.bs.length) (hv:vBs w bs) (dd nn:Nat) (hn:200 < nn) (Q:AV→Heap→Prop)
  (hQ:Q (.t (I 0)) (rdH w ((List.range w.bs.length).foldl (stS w.t (tkN w)) (bs,mr)).1 ((List.range w.bs.length).foldl (stS w.t (tkN w)) (bs,mr)).2 (.t sent) 41++[.row 1 [.ref 6 1 0 0] 0,.row 1 [.t (I 0)] 1,.row 6 [.agg (nwA 3 5 w)] 0])) :
  oB (inl Try.prog pol (ans Try.prog pol) nn (dd+3) (.fn 41) [.ref 6 1 0 0] (rdH w bs mr (.t sent) 41)) Q:=by
 obtain ⟨z1,z2,z3⟩:=okT_size hok
 refine oB_inl il41_eq (Nat.le_of_ble_eq_true rfl) ?_
 simp only [il41c]
 generalize hrf:rfOf Try.prog 41 0=rf
 simp only [rdH,nwA]
 (repeat' first|simp only [List.cons_append,List.nil_append,go_sem]|(with_reducible first|apply wD|apply wT|(apply wM; intro)|(apply wL; intro))|((with_reducible first|refine wA ?_ ?_|refine wE ?_); rfl)|((with_reducible refine oB_inl il26_eq ?_ ?_); exact Nat.le_of_ble_eq_true rfl; simp only [il26c]))
 have key:∀ E:FEnv,([.row 6 [.t zN6] 0,.row 3 [.t stepsT] 1,.row 6 [.agg (nwA 3 5 w)] 1,dnRow w,.row 6 [.agg (nwA 3 5 w)] 1,bsRow bs mr,.row 7 [.agg (nwA 3 5 w++[.t sent])] 1,.row 1 [.t (.agg [.fn (.func 41) [] []])] 1,
  .row 1 [.ref 6 1 0 0] 0,.row 1 [.t (I 0)] 0,.row 6 [.agg (nwA 3 5 w)] 0,.loop 41 (lpEnv 31 (tidyF (some [1,2]) E)) [12,13] rf.1 rf.2 false none]:Heap)=hpTk w sent rf E (bs,mr):=fun E=>rfl
 simp only [nwA,List.cons_append,List.nil_append] at key
 rw [key]
 have h1112:11 < 12:=by omega
 have h1012:10 < 12:=by omega
 have h512:5 < 12:=by omega
 have h01:0≤1:=by omega
 have hI0:vBs w (bs,mr).1∧(bs,mr).2≤w.bs.length:=⟨hv,hmr⟩
 have hb100:w.bs.length≤100:=by omega
 have hnx:∀ (s:List Bx × Nat) n,n < w.bs.length→stA w.t n=false→vBs w s.1∧s.2≤w.bs.length→vBs w (tkN w s n).1∧(tkN w s n).2≤w.bs.length:=fun s n hn hs h=>tkN_ok h.1 h.2 hn hs
 let σ:={ s:List Bx × Nat // vBs w s.1∧s.2≤w.bs.length }
 let nx:σ→Nat→σ:=fun s n=>if h:n < w.bs.length∧stA w.t n=false then ⟨tkN w s.1 n,hnx s.1 n h.1 h.2 s.2⟩ else s
 have hnxv:∀ (s:σ) n,n < w.bs.length→stA w.t n=false→(nx s n).1=tkN w s.1 n:=fun s n h1 h2=>by simp only [nx]; rw [dif_pos ⟨h1,h2⟩]
 have hstv:∀ (s:σ) n,n < w.bs.length→(stS w.t nx s n).1=stS w.t (tkN w) s.1 n:=fun s n h1=>by
  unfold stS
  by_cases q:stA w.t n=true
  ·rw [if_pos q,if_pos q]
  ·rw [if_neg q,if_neg q]; exact hnxv s n h1 (by simpa using q)
 have hfv:∀ (s:σ) k,k≤w.bs.length→((List.range k).foldl (stS w.t nx) s).1=(List.range k).foldl (stS w.t (tkN w)) s.1:=by
  intro s k
  induction k with
  | zero=>intro _; rfl
  | succ k ih =>
   intro hk
   rw [List.range_succ,List.foldl_append,List.foldl_append,List.foldl_cons,List.foldl_cons,List.foldl_nil,List.foldl_nil,hstv _ _ (by omega),ih (by omega)]
 have hLs:∀ s:σ,s.1.1.length=w.bs.length:=fun s=>by have h:=s.2.1; unfold vBs at h; exact h.1
 have hs0:∀ E:FEnv,hpTk w sent rf E (bs,mr)=(fun s:σ=>hpTk w sent rf E s.1) ⟨(bs,mr),hI0⟩:=fun E=>rfl
 rw [hs0]
 with_reducible refine all_iterR (fun s:σ=>hpTk w sent rf _ s.1) 12 (fun s=>rfl) nx (dd+1) nn 11 (fun n s=>True) w (fun _ _ _ _=>trivial) ?_ h1112 10 3 5 0 h1012 h01 h512 (fun s=>s.1.1) (fun s=>s.1.2) hLs (fun s=>s.2.2) (fun _ _=>rfl) (fun _ _=>rfl) z2 hbl hb100 ?_ ⟨(bs,mr),hI0⟩ trivial _ hn ?_
 ·intro s h q hq
  exact hpTk_frz w sent rf _ (by simp only [go_sem]) s.1 h q hq
 ·intro s n x Q hx hs _ hQ
  have hnl:n < w.bs.length:=by rw [← hLs s]; exact (List.getElem?_eq_some_iff.1 hx).1
  have hQ':∀ X',Q (.t (B true)) (hpTk w sent rf _ (nx s n).1++[.row 5 [.t (.agg (bxC x))] 1]++X'):=hQ
  rw [hnxv s n hnl hs] at hQ'
  exact tick_yield rf hrf w hb100 sent _ (by simp only [go_sem]) s.1 s.2.1 s.2.2 n x hx hs dd nn hn Q hQ'
 ·intro v
  change rfEnd _ _ _ v (hpTk w sent rf _ ((List.range w.bs.length).foldl (stS w.t nx) ⟨(bs,mr),hI0⟩).1)
  rw [hfv _ _ (Nat.le_refl _)]
  generalize (List.range w.bs.length).foldl (stS w.t (tkN w)) (bs,mr)=s at *
  simp only [hpTk,rdH,lpTk,List.cons_append,List.nil_append,nwA,bsRow,dnRow] at hQ ⊢
  (repeat' first|simp only [il41c,go_sem,frz_mapA]|(with_reducible first|apply wD|apply wT|(apply wM; intro)|(apply wL; intro))|((with_reducible first|refine wA ?_ ?_|refine wE ?_); rfl))
  all_goals exact hQ
end Go.Proofs.Ytbibdnlbpjnieaa
namespace Go.Proofs.Ytbibdnlbpjnieaa
open Go Go.Abs
def OpI (b:Br) (s:Os'):Prop:=s.t=tp0 b∨∃ i,i < b.heard.length∧leads b i=true∧s.t=⟨(ofr b i).a,(ofr b i).b,(ofr b i).c,i,(ofr b i).g⟩
theorem opF_inv (b:Br):OpI b (opF b):=by
 have key:∀ (l:List Nat) (s:Os'),(∀ i∈l,i < b.heard.length)→OpI b s→OpI b (l.foldl (ldS b (opS b)) s):=by
  intro l
  induction l with
  | nil=>intro s _ h; exact h
  | cons i l ih =>
   intro s hl h
   refine ih _ (fun j hj=>hl j (List.mem_cons_of_mem _ hj)) ?_
   unfold ldS
   split
   ·rename_i hld
    unfold opS
    split
    ·exact .inr ⟨i,hl i (by simp),hld,rfl⟩
    ·exact h
   ·exact h
 exact key _ _ (fun i hi=>by simpa using hi) (.inl rfl)
end Go.Proofs.Ytbibdnlbpjnieaa
namespace Go.Proofs.Ytbibdnlbpjnieaa
open Go Go.Abs
theorem top_spec {b:Br} (hb:okB b=true):(opF b).t=tp0 b∨∃ i:Nat,i < b.ports.length∧(opF b).t.via=i∧bidP (opF b).t.rp (opF b).t.rn∧lt2 (opF b).t.rp (opF b).t.rn b.p b.n∧(0 < (opF b).t.cost∧(opF b).t.cost≤1048576)∧0≤(opF b).t.age∧(opF b).t.age≤20:=by
 have hl:=okB_len hb
 simp only [okL] at hl
 rcases opF_inv b with h|⟨i,hi,hld,h⟩
 ·exact .inl h
 ·right
  rw [h]
  have h2:=okB_at hb (i:=i) (by omega)
  rw [okAt,decide_eq_true_eq] at h2
  simp only [leads,Bool.and_eq_true,Bool.not_eq_true',decide_eq_false_iff_not,decide_eq_true_eq] at hld
  have hh:=h2.2.2.2.1 hld.1.1
  have hc:=h2.2.2.1
  simp only [helloP] at hh
  refine ⟨i,by omega,rfl,hh.1.1,hld.2,?_,?_⟩
  ·have:=hld.1.2
   simp only [ofr] at this ⊢
   omega
  ·simp only [ofr]; omega
theorem bid_of {b:Br} (hb:okB b=true):bidP b.p b.n:=by
 rw [okB,Bool.and_eq_true,Bool.and_eq_true] at hb
 exact of_decide_eq_true hb.1.2
theorem clm_ok {b:Br} (hb:okB b=true) {i:Nat} (hi:i < b.ports.length):helloP (clm b (opF b).t i):=by
 have h2:=okB_at hb hi
 rw [okAt,decide_eq_true_eq] at h2
 have hp:=h2.1
 have hbid:=bid_of hb
 rcases top_spec hb with h|⟨j,h1,h3,h4,h5,h6,h7⟩
 ·rw [h]
  simp only [helloP,clm,tp0]
  exact ⟨⟨hbid,hbid,by omega,by omega⟩,by omega⟩
 ·simp only [helloP,clm]
  exact ⟨⟨h4,hbid,by omega,by omega⟩,by omega⟩
end Go.Proofs.Ytbibdnlbpjnieaa
namespace Go.Proofs.Ytbibdnlbpjnieaa
open Go Go.Abs
structure NwOk (w:Nw):Prop where
 t:okT w.t=true
 rank:rankL w.t w.prios=true
 bl:(w.bs.length:Int)=w.t.nodes
 dl:w.down.length=w.t.links.length
 vb:vBs w w.bs
theorem okN_ok {w:Nw} (h:okN w=true) (hz:zOk w):NwOk w:=by
 simp only [okN,Bool.and_eq_true] at h
 obtain ⟨h1,h2,h3,h4,h5⟩:=h
 have h3:=of_decide_eq_true h3
 have h4:=of_decide_eq_true h4
 refine ⟨h1,h2,h3,h4,rfl,fun n x hx hs=>?_⟩
 have hn:n < w.bs.length:=(List.getElem?_eq_some_iff.1 hx).1
 have hbx:bxA w n=x:=by simp [bxA,hx]
 have h6:=List.all_eq_true.1 h5 n (List.mem_range.2 hn)
 rw [soundN,if_neg (by rw [hs]; simp),hbx] at h6
 simp only [Bool.and_eq_true] at h6
 obtain ⟨a1,a2,a3,a4,a5⟩:=h6
 have a2:=of_decide_eq_true a2
 refine ⟨?_,⟨a1,a2.1,a2.2,of_decide_eq_true a3,of_decide_eq_true a4⟩⟩
 cases hz':x.z with
 | false=>rfl
 | true =>
  have:=(hz n hn (by rw [hbx]; exact hz')).1
  rw [hs] at this; cases this
theorem rankL_len {t:Tpo} {l:List Int} (h:rankL t l=true):(l.length:Int)=t.nodes:=by
 simp only [rankL,Bool.and_eq_true] at h; exact of_decide_eq_true h.1
theorem vBs_cpX {w:Nw} {bs:List Bx} (h:vBs w bs):vBs w (bs.map cpX):=by
 refine ⟨by simpa using h.1,fun n x hx hs=>?_⟩
 rw [List.getElem?_map,Option.map_eq_some_iff] at hx
 obtain ⟨y,hy,rfl⟩:=hx
 obtain ⟨h1,h2⟩:=h.2 n y hy hs
 rw [cpX,if_neg (by rw [h1]; simp)]
 exact ⟨rfl,h2⟩
def sentW (w:Nw) (bs:List Bx):List (Option (List Hd)):=(List.range w.bs.length).map (sentAt w.t bs)
def rndB (w:Nw) (bs:List Bx) (mr:Nat):List Bx × Nat :=
 (List.range w.bs.length).foldl (stS w.t (tkN w)) ((List.range w.bs.length).foldl (stS w.t (rcvN w (sentW w bs))) (bs,mr))
theorem sent_ok {w:Nw} {bs:List Bx} (h:vBs w bs):sentOk w (sentW w bs):=by
 refine ⟨by simp [sentW],fun n hn hs=>?_⟩
 obtain ⟨x,hx⟩:∃ x,bs[n]? = some x:=⟨bs[n]'(by rw [h.1]; exact hn),by simp [h.1,hn]⟩
 obtain ⟨h1,h2⟩:=h.2 n x hx hs
 refine ⟨sends x.b,?_,?_,?_⟩
 ·rw [sentW,List.getElem?_map,List.getElem?_range hn,Option.map_some,sentAt,if_neg (by rw [hs]; simp),hx]; rfl
 ·rw [sends,h2.ports]; simp
 ·intro m hm hi
  simp only [sends,List.mem_map,List.mem_range] at hm
  obtain ⟨i,hi',rfl⟩:=hm
  unfold sentF at hi ⊢
  split at hi
  ·rename_i h3; rw [if_pos h3]; exact clm_ok h2.ok hi'
  ·exact (by cases hi)
def rcvL (w:Nw) (S:List (Option (List Hd))) (bs:List Bx) (n:Nat):List Bx :=
 (List.range ((S[n]?.getD none).getD []).length).foldl (fun s i=>rcvP w s ((trunkL w.t n)[i]?.getD 0) (((S[n]?.getD none).getD [])[i]?.getD zH)) bs
def tkL (bs:List Bx) (n:Nat):List Bx:=bs.set n (tkB (bs[n]?.getD zBx).b)
def rndL (w:Nw) (bs:List Bx):List Bx:=(List.range w.bs.length).foldl (stS w.t tkL) ((List.range w.bs.length).foldl (stS w.t (rcvL w (sentW w bs))) bs)
theorem fold_fst {α σ τ:Type} (f:σ × τ→α→σ × τ) (g:σ→α→σ) (h:∀ s a,(f s a).1=g s.1 a):∀ (l:List α) (s:σ × τ),(l.foldl f s).1=l.foldl g s.1:=by
 intro l
 induction l with
 | nil=>intro s; rfl
 | cons a l ih=>intro s; rw [List.foldl_cons,List.foldl_cons,ih,h]
theorem rcvN_fst (w:Nw) (S:List (Option (List Hd))) (s:List Bx × Nat) (n:Nat):(rcvN w S s n).1=rcvL w S s.1 n:=fold_fst _ _ (fun _ _=>rfl) _ _
theorem stS_fst {σ τ:Type} (t:Tpo) (f:σ × τ→Nat→σ × τ) (g:σ→Nat→σ) (h:∀ s a,(f s a).1=g s.1 a) (s:σ × τ) (n:Nat):(stS t f s n).1=stS t g s.1 n:=by
 unfold stS
 split
 ·rfl
 ·exact h s n
theorem rndB_fst (w:Nw) (bs:List Bx) (mr:Nat):(rndB w bs mr).1=rndL w bs:=by
 rw [rndB,fold_fst _ _ (stS_fst w.t (tkN w) tkL (fun _ _=>rfl)),fold_fst _ _ (stS_fst w.t _ _ (rcvN_fst w _))]
 rfl
theorem rcv_all {w:Nw} {S:List (Option (List Hd))} (hS:sentOk w S) {s:List Bx × Nat} (h:vBs w s.1) (h2:s.2≤w.bs.length):vBs w ((List.range w.bs.length).foldl (stS w.t (rcvN w S)) s).1∧((List.range w.bs.length).foldl (stS w.t (rcvN w S)) s).2≤w.bs.length :=
 fold_ok (fun s n hn hs h=>rcvN_ok hS h.1 h.2 hn hs) ⟨h,h2⟩ _ (Nat.le_refl _)
theorem tk_all {w:Nw} {s:List Bx × Nat} (h:vBs w s.1) (h2:s.2≤w.bs.length):vBs w ((List.range w.bs.length).foldl (stS w.t (tkN w)) s).1∧((List.range w.bs.length).foldl (stS w.t (tkN w)) s).2≤w.bs.length :=
 fold_ok (fun s n hn hs h=>tkN_ok h.1 h.2 hn hs) ⟨h,h2⟩ _ (Nat.le_refl _)
theorem rIter_nil (cut:Nat→Bool):∀ (n:Nat) (r:List Bool),rIter cut [] n r=r:=by
 intro n
 induction n with
 | zero=>intro r; rfl
 | succ n ih=>intro r; rw [rIter,rRound,ih]
theorem links_ne {t:Tpo} (h:okT t=true):t.links≠[]:=by
 intro hl
 obtain ⟨⟨z1,z1'⟩,z2,z3⟩:=okT_size h
 simp only [okT,Bool.and_eq_true,Bool.not_eq_true',decide_eq_false_iff_not] at h
 apply h.2.2.2
 rw [reachL,hl,rIter_nil]
 obtain ⟨m,hm⟩:∃ m,t.nodes.toNat=m+2:=⟨t.nodes.toNat - 2,by omega⟩
 rw [hm]
 simp [List.replicate_succ]
theorem sent_frz (w:Nw) (S:List (Option (List Hd))) (hsl:S.length=w.bs.length) (mrs:Nat) (hmrs:mrs≤w.bs.length) (hx:Heap) (hg:hx[10]? = some (.row 1 ((S.map encS).map AV.t) mrs)):frzObj hx (fromB 7) (.row 7 [.agg (nwA 3 5 w++[AV.ms 10 w.bs.length 0 w.bs.length 1 true])] 1)=some (.row 7 [.agg (nwA 3 5 w++[AV.t (sentT S)])] 1):=by
 have hms:frz hx (fromB 7) (.ms 10 w.bs.length 0 w.bs.length 1 true)=some (.t (sentT S)):=frz_msr rfl hg hmrs hsl.symm
 have ha:avoidAll (fromB 7) (nwA 3 5 w++[AV.ms 10 w.bs.length 0 w.bs.length 1 true])=false:=by simp [nwA,avoidAll,avoid,fromB]
 have h3:frz hx (fromB 7) (.ms 3 w.down.length 0 w.down.length 1 false)=some (.ms 3 w.down.length 0 w.down.length 1 false):=frz_ms rfl
 have h5:frz hx (fromB 7) (.ms 5 w.bs.length 0 w.bs.length 5 true)=some (.ms 5 w.bs.length 0 w.bs.length 5 true):=frz_ms rfl
 have hag:frz hx (fromB 7) (.agg (nwA 3 5 w++[AV.ms 10 w.bs.length 0 w.bs.length 1 true]))=some (.agg (nwA 3 5 w++[AV.t (sentT S)])):=by
  rw [frz_aggN (cs':=nwA 3 5 w++[AV.t (sentT S)]) ha (by simp only [nwA,List.cons_append,List.nil_append,mapO,frzCell_t,frzCell_ms,h3,h5,hms])]
  rfl
 have ha2:avoidAll (fromB 7) [.agg (nwA 3 5 w++[AV.ms 10 w.bs.length 0 w.bs.length 1 true])]=false:=by rw [av_cons,av_agg,ha]; rfl
 simp only [frzObj,ha2,mapO,hag,Bool.false_eq_true,if_false]
theorem Round_ok (f:Fl) (w:Nw) (hz:zOk w) (hok:okN w=true) (hb6:∀ x∈w.bs,x.b.ports.length≤900∧x.b.costs.length≤900∧x.b.heard.length≤900):ans Try.prog pol 21 [nwT f w]=some (.tup [nwT ⟨false,false,false,false,true⟩ ⟨w.t,w.prios,w.down,rndL w (w.bs.map cpX)⟩,I 0]):=by
 have hO:=okN_ok hok hz
 obtain ⟨z1,z2,z3⟩:=okT_size hO.t
 have hpl:=rankL_len hO.rank
 have hbl:=hO.bl
 have hdl:=hO.dl
 have k1:=CheckN_ans f w hz (by omega) (by omega)
 rw [if_pos hok] at k1
 have hne:w.down≠[]:=by
  have h:=(links_ne hO.t)
  intro hd; rw [hd] at hdl; exact h (List.eq_nil_of_length_eq_zero hdl.symm)
 obtain ⟨nn,h2000⟩:∃ nn,2000 < nn:=⟨2001,by omega⟩
 have hn1:1000 < nn+9:=by omega
 have hn2:200 < nn+9:=by omega
 have hn3:200 < nn+8:=by omega
 have hn4:200 < nn+7:=by omega
 refine ans_go (nn+9) 5 il21_eq (Nat.le_of_ble_eq_true rfl) ?_
 (have hc:=hc0; repeat' first|simp only [hc,il21c,go_sem,k1]|((with_reducible first|refine wG (fun hc=>?_) fun hc=>?_|refine wC (fun hc=>?_) fun hc=>?_|refine wD ?_|refine wT ?_|refine wM fun _=>?_|refine wL fun _=>?_) <;> try simp only [bq1,bq2] at hc)|((with_reducible first|refine wA ?_ ?_|refine wE ?_); rfl))
 refine copied_fresh f w hne (by omega) (by omega) (by omega) (by omega) (by omega) hb6 2 3 (nn+9) hn1 _ ?_
 intro mr hmr
 have hv1:=vBs_cpX hO.vb
 rw [← rndB_fst w _ mr]
 have a1:avoidAll (belowB 2) [.agg (nwA 3 5 w)]=true:=by simp [nwA,avoidAll,avoid,belowB]
 have h100:w.bs.length≤100:=by omega
 have hrb:rndB w (w.bs.map cpX) mr=(List.range w.bs.length).foldl (stS w.t (tkN w)) ((List.range w.bs.length).foldl (stS w.t (rcvN w (sentW w (w.bs.map cpX)))) (w.bs.map cpX,mr)):=rfl
 rw [hrb]
 have hso:=sent_ok hv1
 have hr1:=rcv_all hso (s:=(w.bs.map cpX,mr)) hv1 hmr
 have c1:=send_ok w (w.bs.map cpX) mr hmr ⟨by simp,fun n x hx hs=>⟨(hv1.2 n x hx hs).1,(hv1.2 n x hx hs).2.ok⟩⟩ z2 hbl h100 2 (nn+9) hn2
 have c2:=@receive_ok w hO.t hdl hbl (sentW w (w.bs.map cpX)) hso (w.bs.map cpX) mr hmr hv1 2 (nn+9) hn2
 have c3:=@tick_ok w hO.t hbl (sentT (sentW w (w.bs.map cpX))) _ _ hr1.2 hr1.1 2 (nn+9) hn2
 have hr2:=tk_all hr1.1 hr1.2
 generalize (List.range w.bs.length).foldl (stS w.t (rcvN w (sentW w (w.bs.map cpX)))) (w.bs.map cpX,mr)=r1 at *
 have hsw:((List.range w.bs.length).map (sentAt w.t (w.bs.map cpX)))=sentW w (w.bs.map cpX):=rfl
 rw [hsw] at c1
 have hsl:(sentW w (w.bs.map cpX)).length=w.bs.length:=by simp [sentW]
 generalize sentW w (w.bs.map cpX)=S at *
 have hl1:=hr1.1.1
 generalize (List.range w.bs.length).foldl (stS w.t (tkN w)) (r1.1,r1.2)=r2 at *
 simp only [nwA,bsRow,dnRow,rdH,List.cons_append,List.nil_append] at a1 c1 c2 c3 ⊢
 (have hc:=hc0; repeat' first|simp only [hc,freshK_app,List.replicate_succ,List.replicate_zero,List.drop_succ_cons,List.drop_zero,List.cons_append,List.nil_append,go_sem,av_map,a1,List.drop_succ_cons,List.drop_zero]|((with_reducible first|refine wG (fun hc=>?_) fun hc=>?_|refine wC (fun hc=>?_) fun hc=>?_|refine wD ?_|refine wT ?_|refine wM fun _=>?_|refine wL fun _=>?_) <;> try simp only [bq1,bq2] at hc)|((with_reducible first|refine wA ?_ ?_|refine wE ?_); rfl)|((with_reducible refine iter_unroll (body:=wc _ _ _ _ _ _ il21l0) ?_ ?_); exact Nat.le_of_ble_eq_true rfl; simp only [il21l0_go,il21l0b]))
 with_reducible refine @c1 _ ?_
 intro mrs hmrs
 have hcut:∀ hx:Heap,hx[10]? = some (.row 1 ((S.map encS).map AV.t) mrs)→frzObj hx (fromB 7) (.row 7 [.agg [AV.t (I w.t.nodes),AV.t (T.sl false 1 (List.map B w.t.station)),AV.t (T.sl false 4 (List.map encK w.t.links)),AV.t (T.sl false 1 (List.map I w.prios)),AV.ms 3 w.down.length 0 w.down.length 1 false,AV.ms 5 w.bs.length 0 w.bs.length 5 true,AV.ms 10 w.bs.length 0 w.bs.length 1 true]] 1)
   = some (.row 7 [.agg [AV.t (I w.t.nodes),AV.t (T.sl false 1 (List.map B w.t.station)),AV.t (T.sl false 4 (List.map encK w.t.links)),AV.t (T.sl false 1 (List.map I w.prios)),AV.ms 3 w.down.length 0 w.down.length 1 false,AV.ms 5 w.bs.length 0 w.bs.length 5 true,AV.t (sentT S)]] 1):=fun hx hg=>sent_frz w S hsl mrs hmrs hx hg
 (have hc:=hc0; repeat' first|simp only [hc,freshK_app,go_sem,frz_mapA,hcut]|((with_reducible first|refine wG (fun hc=>?_) fun hc=>?_|refine wC (fun hc=>?_) fun hc=>?_|refine wD ?_|refine wT ?_|refine wM fun _=>?_|refine wL fun _=>?_) <;> try simp only [bq1,bq2] at hc)|((with_reducible first|refine wA ?_ ?_|refine wE ?_); rfl)|((with_reducible refine iter_unroll (body:=wc _ _ _ _ _ _ il21l0) ?_ ?_); exact Nat.le_of_ble_eq_true rfl; simp only [il21l0_go,il21l0b]))
 with_reducible refine @c2 _ ?_
 (have hc:=hc0; repeat' first|simp only [hc,freshK_app,go_sem,frz_mapA]|((with_reducible first|refine wG (fun hc=>?_) fun hc=>?_|refine wC (fun hc=>?_) fun hc=>?_|refine wD ?_|refine wT ?_|refine wM fun _=>?_|refine wL fun _=>?_) <;> try simp only [bq1,bq2] at hc)|((with_reducible first|refine wA ?_ ?_|refine wE ?_); rfl)|((with_reducible refine iter_unroll (body:=wc _ _ _ _ _ _ il21l0) ?_ ?_); exact Nat.le_of_ble_eq_true rfl; simp only [il21l0_go,il21l0b]))
 with_reducible refine @c3 _ ?_
 obtain ⟨hr3,hr4⟩:=hr2
 have hl2:((r2.1.map encX).map AV.t).length=w.bs.length:=by simp [hr3.1]
 (have hc:=hc0; repeat' first|simp only [hc,freshK_app,go_sem,frz_mapA,hr4,hl2]|((with_reducible first|refine wG (fun hc=>?_) fun hc=>?_|refine wC (fun hc=>?_) fun hc=>?_|refine wD ?_|refine wT ?_|refine wM fun _=>?_|refine wL fun _=>?_) <;> try simp only [bq1,bq2] at hc)|((with_reducible first|refine wA ?_ ?_|refine wE ?_); rfl)|((with_reducible refine iter_unroll (body:=wc _ _ _ _ _ _ il21l0) ?_ ?_); exact Nat.le_of_ble_eq_true rfl; simp only [il21l0_go,il21l0b]))
end Go.Proofs.Ytbibdnlbpjnieaa
namespace Go.Proofs.Ytbibdnlbpjnieaa
open Go Go.Abs
section
variable (f:Fl) (w:Nw) (k:Int) (hz:zOk w)
include hz
theorem Restore_ok (hok:okN w=true) (j:Nat) (hj:j < w.t.links.length) (hb6:∀ x∈w.bs,x.b.ports.length≤900∧x.b.costs.length≤900∧x.b.heard.length≤900):ans Try.prog pol 14 [nwT f w,I (j:Nat)]=some (.tup [nwT ⟨false,false,false,false,true⟩ ⟨w.t,w.prios,w.down.set j false,w.bs.map cpX⟩,I 0]):=by
 have hO:=okN_ok hok hz
 obtain ⟨z1,z2,z3⟩:=okT_size hO.t
 have hpl:=rankL_len hO.rank
 have hbl:=hO.bl
 have hdl:=hO.dl
 have k1:=CheckN_ans f w hz (by omega) (by omega)
 rw [if_pos hok] at k1
 have hne:w.down≠[]:=by
  have h:=(links_ne hO.t)
  intro hd; rw [hd] at hdl; exact h (List.eq_nil_of_length_eq_zero hdl.symm)
 have d1:decide (((j:Nat):Int) < 0)=false:=decide_eq_false (by omega)
 have d2:decide (((w.down.length:Nat):Int)≤((j:Nat):Int))=false:=decide_eq_false (by omega)
 obtain ⟨nn,h2000⟩:∃ nn,2000 < nn:=⟨2001,by omega⟩
 have hn1:1000 < nn:=by omega
 refine ans_go nn 5 il14_eq (Nat.le_of_ble_eq_true rfl) ?_
 (repeat' first|simp only [il14c,go_sem,k1,d1,d2]|(with_reducible first|apply wD|apply wT|(apply wM; intro)|(apply wL; intro))|((with_reducible first|refine wA ?_ ?_|refine wE ?_); rfl))
 with_reducible refine copied_fresh f w hne (by omega) (by omega) (by omega) (by omega) (by omega) hb6 1 3 nn hn1 _ ?_
 intro mr hmr
 have a1:avoidAll (belowB 1) [.agg (nwA 2 4 w)]=true:=by simp [nwA,avoidAll,avoid,belowB]
 have hdl2:((w.down.map B).map AV.t).length=w.down.length:=by simp
 have hjd:j < w.down.length:=by omega
 obtain ⟨y,hy⟩:∃ y,w.down[j]? = some y:=⟨w.down[j]'hjd,by simp [hjd]⟩
 have gy:((w.down.map B).map AV.t)[j]? = some (.t (B y)):=map_get (enc:=B) hy
 have hset:=map_set (enc:=B) (l:=w.down) (i:=j) (x:=false)
 have hl3:((((w.down.set j false)).map B).map AV.t).length=w.down.length:=by simp
 have hl4:(((w.bs.map cpX).map encX).map AV.t).length=w.bs.length:=by simp
 simp only [nwA,dnRow,bsRow,Nat.reduceAdd] at a1 ⊢
 (repeat' first|simp only [freshK_app,List.replicate_succ,List.replicate_zero,List.drop_succ_cons,List.drop_zero,List.cons_append,List.nil_append,go_sem,av_map,a1,List.drop_succ_cons,List.drop_zero,hdl2,hjd,gy,hset,hl3,hl4,hmr]|(with_reducible first|apply wD|apply wT|(apply wM; intro)|(apply wL; intro))|((with_reducible first|refine wA ?_ ?_|refine wE ?_); rfl))
end
end Go.Proofs.Ytbibdnlbpjnieaa
