/- Part 27 of the proof of TreeRecovers. -/
import Derived.Test.YtbibdnlbpjnieaaR26
set_option linter.all false
set_option maxRecDepth 100000
set_option maxHeartbeats 4000000
namespace Go.Proofs.Ytbibdnlbpjnieaa
open Go Go.Abs
def ghX (x:Bx) (i:Nat) (h:Hd):Bx:=⟨false,x.c1,x.c2,false,putB x.b (x.b.heard.set i (heardAs h))⟩
def ghI (w:Nw) (g:Gh):Nat:=(g.n % w.t.nodes).toNat
def ghN (w:Nw) (g:Gh):Nw:=⟨w.t,w.prios,w.down,w.bs.set (ghI w g) (ghX (bxA w (ghI w g)) (g.p % ((bxA w (ghI w g)).b.heard.length:Nat)).toNat g.h)⟩
def ghW (s:Fl × Nw) (g:Gh):Fl × Nw:=if (bxA s.2 (ghI s.2 g)).b.heard.length=0 then s else if okN (ghN s.2 g)=true then (⟨s.1.st,s.1.lk,s.1.pr,s.1.dn,false⟩,ghN s.2 g) else s
theorem ghN_z {w:Nw} (h:VN w) (g:Gh) (hl:(bxA w (ghI w g)).b.heard.length≠0):zOk (ghN w g):=by
 intro n hn hz
 have hn':n < w.bs.length:=by simpa [ghN] using hn
 by_cases hq:n=ghI w g
 ·exfalso
  have e:bxA (ghN w g) n=ghX (bxA w (ghI w g)) (g.p % ((bxA w (ghI w g)).b.heard.length:Nat)).toNat g.h:=by
   subst hq
   simp only [bxA,ghN]
   rw [List.getElem?_set_self hn']; rfl
  rw [e] at hz
  cases hz
 ·have e:bxA (ghN w g) n=bxA w n:=by
   simp only [bxA,ghN]
   rw [List.getElem?_set_ne (fun h=>hq h.symm)]
  rw [e] at hz ⊢
  exact h.z n hn' hz
theorem ghW_ok {s:Fl × Nw} (h:VN s.2) (g:Gh):VN (ghW s g).2∧(ghW s g).2.t=s.2.t∧(ghW s g).2.prios=s.2.prios∧(ghW s g).2.down=s.2.down:=by
 unfold ghW
 split
 ·exact ⟨h,rfl,rfl,rfl⟩
 ·rename_i hl
  split
  ·rename_i hok
   exact ⟨VN.of hok (ghN_z h g hl),rfl,rfl,rfl⟩
  ·exact ⟨h,rfl,rfl,rfl⟩
theorem foldC_lst {σ α:Type} {f:σ→α→σ}:∀ (l:List α) (i:Nat) (s:σ),foldC (ρ:=σ) (fun _ x s=>Ctl.go (f s x)) id i l s=l.foldl f s:=by
 intro l
 induction l with
 | nil=>intro i s; rfl
 | cons x l ih=>intro i s; rw [foldC_go (s':=f s x) rfl,ih,List.foldl_cons]
theorem names_set {α:Type} {enc:α→T} {l:List α} {n:Nat} {v:AV} (hn:n < l.length):namesAll (((l.map enc).map .t).set n v)=names v:=by
 induction l generalizing n with
 | nil=>simp at hn
 | cons y l ih =>
  cases n with
  | zero=>simp only [List.map_cons,List.set_cons_zero,nm_cons,nm_map,List.append_nil]
  | succ n =>
   simp only [List.map_cons,List.set_cons_succ,nm_cons,nm_t,List.nil_append]
   exact ih (by simpa using hn)
theorem snap_set {α:Type} {enc:α→T} {h:Heap} {p:Nat→Bool} {d:Nat} {l:List α} {n:Nat} {v:AV} {x:α} (hv:snap h p d v=some (enc x)):mapO (snap h p d) (((l.map enc).map .t).set n v)=some ((l.set n x).map enc):=by
 induction l generalizing n with
 | nil=>rfl
 | cons y l ih =>
  cases n with
  | zero =>
   have:mapO (snap h p d) ((l.map enc).map .t)=some (l.map enc):=by
    have:=mapSp_map (h:=h) (p:=p) (d:=d) (xs:=l.map enc)
    exact this
   simp only [List.map_cons,List.set_cons_zero,mapO,hv,this]
  | succ n=>simp only [List.map_cons,List.set_cons_succ,mapO,ih,snp_t]
theorem made_l1 (d:Dr) (hd:drP d) (c:Bool) (ghs:List Gh) (hg:ghP ghs) (x2:T) (s0:Fl × Nw) (hv0:VN s0.2) (ht0:s0.2.t=dTopo d) (dd nn:Nat) (hn:1000 < nn) (R:Xit→FEnv→Heap→Prop) (e:FEnv) (hgl:ghs.length≤12)
  (he:e 2=.t x2∧e 8=.ref 0 1 0 0∧e 10=.ref 1 1 0 0∧e 14=.ref 3 1 0 0∧e 15=.t (I 0)∧e 57=.t (.sl c 9 (ghs.map encG))∧e 58=.t (I (ghs.length:Nat))∧e 59=.t (I 0))
  (hR:∀ e (s:Fl × Nw),s=ghs.foldl ghW s0→(VN s.2∧s.2.t=dTopo d∧s.2.prios=s0.2.prios∧s.2.down=s0.2.down)→(e 2=.t x2∧e 8=.ref 0 1 0 0∧e 10=.ref 1 1 0 0∧e 14=.ref 3 1 0 0∧e 15=.t (I 0))→R (.exit 2) e [.row 6 [.t zN6] 0,.row 3 [.t (tpT false false (dTopo d))] 1,AObj.gone,.row 6 [.t (nwT s.1 s.2)] 1]) :
  wpIter 4 (some [2,8,10,14,15,57,58,59]) (wc Try.prog pol (ans Try.prog pol) (inl Try.prog pol (ans Try.prog pol) nn (dd+2)) nn 8 il8l1) R nn e [.row 6 [.t zN6] 0,.row 3 [.t (tpT false false (dTopo d))] 1,AObj.gone,.row 6 [.t (nwT s0.1 s0.2)] 1]:=by
 refine loop_range ghs encG (step:=fun i g (s:Fl × Nw)=>.go (ghW s g)) (fin:=id)
  (St:=fun i s e h=>(e 2=.t x2∧e 8=.ref 0 1 0 0∧e 10=.ref 1 1 0 0∧e 14=.ref 3 1 0 0∧e 15=.t (I 0)∧e 57=.t (.sl c 9 (ghs.map encG))∧e 58=.t (I (ghs.length:Nat))∧e 59=.t (I (i:Nat)))∧(VN s.2∧s.2.t=dTopo d∧s.2.prios=s0.2.prios∧s.2.down=s0.2.down)∧h=[.row 6 [.t zN6] 0,.row 3 [.t (tpT false false (dTopo d))] 1,AObj.gone,.row 6 [.t (nwT s.1 s.2)] 1])
  (Ex:=fun s x e h=>(e 2=.t x2∧e 8=.ref 0 1 0 0∧e 10=.ref 1 1 0 0∧e 14=.ref 3 1 0 0∧e 15=.t (I 0))∧x=.exit 2∧(VN s.2∧s.2.t=dTopo d∧s.2.prios=s0.2.prios∧s.2.down=s0.2.down)∧h=[.row 6 [.t zN6] 0,.row 3 [.t (tpT false false (dTopo d))] 1,AObj.gone,.row 6 [.t (nwT s.1 s.2)] 1]) (s:=s0) (by omega) ?_ ?_ (by omega) ⟨he,⟨hv0,ht0,rfl,rfl⟩,rfl⟩ ?_
 ·intro i g s e h Y R' hm hi hx hget hlt hw ⟨hs,⟨hv,ht,hpr,hdn⟩,hh⟩ hk
  subst hh
  simp only [ctlK_go] at hk
  obtain ⟨gb1,gb2⟩:=hg.1 g hm
  have hgw:=ghW_ok hv g
  obtain ⟨z1,z2,z3⟩:=okT_size hv.t
  have hbl:=hv.bl
  obtain ⟨f,w⟩:=s
  dsimp only at hv ht hpr hdn hgw hbl z1 z2 z3 hk
  have hN:(dTopo d).nodes=(w.bs.length:Nat):=by rw [← ht]; exact hbl.symm
  have hNw:w.t.nodes=(w.bs.length:Nat):=hbl.symm
  have d1:decide ((w.bs.length:Int)=(w.bs.length:Nat))=true:=decide_eq_true rfl
  have u1:IntKind.i64.wrap g.n=g.n:=wrap_i64 (by omega) (by omega)
  have u2:IntKind.i64.wrap g.p=g.p:=wrap_i64 (by omega) (by omega)
  have hn0:¬ (((w.bs.length:Nat):Int)=0):=by omega
  have t1:g.n.tmod (w.bs.length:Nat)=((ghI w g:Nat):Int):=by rw [Int.tmod_eq_emod_of_nonneg gb1.1,ghI,hNw]; have:=Int.emod_nonneg g.n (b:=((w.bs.length:Nat):Int)) (by omega); omega
  have m1:=Int.emod_nonneg g.n (b:=((w.bs.length:Nat):Int)) (by omega)
  have m2:=Int.emod_lt_of_pos g.n (b:=((w.bs.length:Nat):Int)) (by omega)
  have hgi:ghI w g < w.bs.length:=by rw [ghI,hNw]; omega
  have v1:IntKind.i64.wrap ((ghI w g:Nat):Int)=((ghI w g:Nat):Int):=wrap_i64 (by omega) (by omega)
  have htp:tpT false false (dTopo d)=.agg [I ((w.bs.length:Nat):Int),.sl false 1 ((dTopo d).station.map B),.sl false 4 ((dTopo d).links.map encK)]:=by rw [← hN]
  have gx:(w.bs.map encX)[ghI w g]? = some (encX (bxA w (ghI w g))):=by simp [bxA,hgi]
  by_cases hl0:(bxA w (ghI w g)).b.heard.length=0
  ·have hgk:ghW (f,w) g=(f,w):=by rw [ghW,if_pos hl0]
   rw [hgk] at hk
   rw [htp] at hk ⊢
   generalize bxA w (ghI w g)=x at *
   generalize ghI w g=n at *
   obtain ⟨z,q1,q2,q3,b⟩:=x
   dsimp only at hl0
   have dl:decide ((b.heard.length:Int)=0)=true:=decide_eq_true (by omega)
   cases z with
   | true =>
    have hcx:(encX ⟨true,q1,q2,q3,b⟩).cells=[I 0,I 0,.sc (.slice none 0 0),.sc (.slice none 0 0),.sc (.slice none 0 0)]:=rfl
    (repeat' first|simp only [il8l1_go,il8l1b,go_sem,hs,hget,hlt,hw,encG_cells,u1,t1,v1,hn0,gx,hcx,hgi,dl,frz_rowG']|(with_reducible first|apply wD|apply wT|(apply wM; intro)|(apply wL; intro))|((with_reducible first|refine wA ?_ ?_|refine wE ?_); rfl))
    all_goals (refine hk _ _ ⟨?_,⟨hv,ht,hpr,hdn⟩,?_⟩ <;> simp only [go_sem,hs,hw])
   | false =>
    have hcx:(encX ⟨false,q1,q2,q3,b⟩).cells=brC q1 q2 q3 b:=rfl
    (repeat' first|simp only [il8l1_go,il8l1b,go_sem,hs,hget,hlt,hw,encG_cells,u1,t1,v1,hn0,gx,hcx,hgi,dl,frz_rowG']|(with_reducible first|apply wD|apply wT|(apply wM; intro)|(apply wL; intro))|((with_reducible first|refine wA ?_ ?_|refine wE ?_); rfl))
    all_goals (refine hk _ _ ⟨?_,⟨hv,ht,hpr,hdn⟩,?_⟩ <;> simp only [go_sem,hs,hw])
  ·have hgk:ghW (f,w) g=if okN (ghN w g)=true then (⟨f.st,f.lk,f.pr,f.dn,false⟩,ghN w g) else (f,w):=by rw [ghW,if_neg hl0]
   rw [hgk] at hk hgw
   have hz:=ghN_z hv g hl0
   have hCk:=fun f'=>CheckN_ans f' (ghN w g) hz (by show w.prios.length≤900; have:=rankL_len hv.rank; omega) (by show (w.bs.set _ _).length≤900; simp; omega)
   have hxz:(bxA w (ghI w g)).z=false:=by
    cases hq:(bxA w (ghI w g)).z with
    | false=>rfl
    | true=>exact absurd (by rw [(hv.z _ hgi hq).2]; rfl) hl0
   have hbx0:∀ y,w.bs[ghI w g]? = some y→y=bxA w (ghI w g):=fun y hy=>by simp [bxA,hy]
   have hb6:=hv.b6 (bxA w (ghI w g)) (by simp [bxA,hgi])
   have hne:w.bs≠[]:=fun h=>by rw [h] at hgi; simp at hgi
   have hgn:ghN w g=⟨w.t,w.prios,w.down,w.bs.set (ghI w g) (ghX (bxA w (ghI w g)) (g.p % ((bxA w (ghI w g)).b.heard.length:Nat)).toNat g.h)⟩:=rfl
   rw [hgn] at hCk hk hgw
   rw [htp] at hk ⊢
   generalize bxA w (ghI w g)=x at *
   generalize ghI w g=n at *
   obtain ⟨z,q1,q2,q3,b⟩:=x
   dsimp only at hl0 hxz hb6 hCk hk hgw
   subst hxz
   have hneh:b.heard≠[]:=fun h=>hl0 (by rw [h]; rfl)
   have dl:decide ((b.heard.length:Int)=0)=false:=decide_eq_false (by omega)
   have gx0:w.bs[n]? = some ⟨false,q1,q2,q3,b⟩:=by
    obtain ⟨y,hy⟩:∃ y,w.bs[n]? = some y:=⟨w.bs[n],by simp [hgi]⟩
    have:=hbx0 y hy
    rw [hy,this]
   have hcx:(encX ⟨false,q1,q2,q3,b⟩).cells=brC q1 q2 q3 b:=rfl
   have hm0:¬ (((b.heard.length:Nat):Int)=0):=by omega
   have p1:=Int.emod_nonneg g.p (b:=((b.heard.length:Nat):Int)) (by omega)
   have p2:=Int.emod_lt_of_pos g.p (b:=((b.heard.length:Nat):Int)) (by omega)
   obtain ⟨j,hj⟩:∃ j:Nat,(j:Int)=g.p % (b.heard.length:Nat):=⟨(g.p % (b.heard.length:Nat)).toNat,by omega⟩
   have hjl:j < b.heard.length:=by omega
   have t2:g.p.tmod (b.heard.length:Nat)=((j:Nat):Int):=by rw [Int.tmod_eq_emod_of_nonneg gb2.1,hj]
   have v2:IntKind.i64.wrap ((j:Nat):Int)=((j:Nat):Int):=wrap_i64 (by omega) (by omega)
   rw [← hj,Int.toNat_natCast] at hCk hk hgw
   have a1:∀ l:List AV,avoidAll (belowB 7) (((w.bs.map encX).map AV.t))=true:=fun l=>av_map
   have prd1:primB pol 17 [.t (.sl f.bs 5 (w.bs.map encX))]=false:=by
    obtain ⟨b,l,hl⟩:=List.exists_cons_of_ne_nil hne
    rw [hl]; simp only [List.map_cons,prB_cons]
   have prd2:primB pol 23 [.t (.sl q3 8 (b.heard.map encH))]=false:=by
    obtain ⟨b,l,hl⟩:=List.exists_cons_of_ne_nil hneh
    rw [hl]; simp only [List.map_cons,prB_cons]
   simp only [nwC] at hk ⊢
   (repeat' first|simp only [il8l1_go,il8l1b,go_sem,hs,hget,hlt,hw,encG_cells,u1,t1,v1,hn0,gx,hcx,hgi,dl,prd1,prd2,frz_rowG']|(with_reducible first|apply wD|apply wT|(apply wM; intro)|(apply wL; intro))|((with_reducible first|refine wA ?_ ?_|refine wE ?_); rfl))
   refine cloneX_fresh f.bs w.bs (by omega) hne 7 (dd+1) nn (by omega) _ ?_
   (repeat' first|simp only [freshK_app,List.replicate_succ,List.replicate_zero,List.drop_succ_cons,List.drop_zero,List.cons_append,List.nil_append,go_sem,hs,av_map,a1,List.drop_succ_cons,List.drop_zero,u2,t2,v2,hm0,hcx,gx,hgi,hjl,prd1,prd2]|(with_reducible first|apply wD|apply wT|(apply wM; intro)|(apply wL; intro))|((with_reducible first|refine wA ?_ ?_|refine wE ?_); rfl))
   rw [show ([.gone,.gone,.gone,.gone,.gone,.gone,.gone,.gone]:Heap)=List.replicate 8 .gone from rfl]
   with_reducible refine @cloneHd_fresh q3 b.heard (by omega) hneh 8 (dd+1) nn (by omega) _ ?_
   have gxr:((w.bs.map encX).map AV.t)[n]? = some (.t (brT q1 q2 q3 b)):=map_get (enc:=encX) (by simpa using gx0)
   have hSl:((w.bs.map encX).map AV.t).length=w.bs.length:=by simp
   have gSs:∀ v:AV,(((w.bs.map encX).map AV.t).set n v)[n]? = some v:=fun v=>List.getElem?_set_self (by omega)
   have hSs:∀ v:AV,(((w.bs.map encX).map AV.t).set n v).length=w.bs.length:=fun v=>by simp
   obtain ⟨o,ho⟩:∃ o,b.heard[j]? = some o:=⟨b.heard[j],by simp [hjl]⟩
   have gho:((b.heard.map encH).map AV.t)[j]? = some (.t (hdT o)):=map_get (enc:=encH) ho
   have hnm:∀ v:AV,namesAll (((w.bs.map encX).map AV.t).set n v)=names v:=fun v=>names_set (by omega)
   have hset8:((b.heard.map encH).map AV.t).set j (.t (.agg [.sc (.bool true),I g.h.a,I g.h.b,I g.h.c,I g.h.d,I g.h.e,I g.h.f,I g.h.g]))=(((b.heard.set j (heardAs g.h)).map encH).map AV.t):=map_set (enc:=encH) (l:=b.heard) (i:=j) (x:=heardAs g.h)
   have hl8:(b.heard.set j (heardAs g.h)).length=b.heard.length:=by simp
   have fz7:∀ (hx:Heap) (p:Nat→Bool),p 7=true→p 8=true→hx[7]? = some (.row 5 (((w.bs.map encX).map AV.t).set n (.agg [.t (I b.p),.t (I b.n),.t (.sl q1 1 (b.ports.map I)),.t (.sl q2 1 (b.costs.map I)),.ms 8 b.heard.length 0 b.heard.length 8 false])) w.bs.length) →
     hx[8]? = some (.row 8 (((b.heard.set j (heardAs g.h)).map encH).map AV.t) b.heard.length)→frz hx p (.ms 7 w.bs.length 0 w.bs.length 5 false)=some (.t (.sl false 5 ((w.bs.set n (ghX ⟨false,q1,q2,q3,b⟩ j g.h)).map encX))):=by
    intro hx p p7 p8 h7 h8
    have e8:snap hx p 18 (.ms 8 b.heard.length 0 b.heard.length 8 false)=some (.sl false 8 ((b.heard.set j (heardAs g.h)).map encH)):=snap_msr (d:=16) p8 h8 (Nat.le_refl _) hl8.symm
    have ev:snap hx p 19 (.agg [.t (I b.p),.t (I b.n),.t (.sl q1 1 (b.ports.map I)),.t (.sl q2 1 (b.costs.map I)),.ms 8 b.heard.length 0 b.heard.length 8 false])=some (encX (ghX ⟨false,q1,q2,q3,b⟩ j g.h)):=by
     have:snap hx p 19 (.agg [.t (I b.p),.t (I b.n),.t (.sl q1 1 (b.ports.map I)),.t (.sl q2 1 (b.costs.map I)),.ms 8 b.heard.length 0 b.heard.length 8 false])=(match mapO (snap hx p 18) [.t (I b.p),.t (I b.n),.t (.sl q1 1 (b.ports.map I)),.t (.sl q2 1 (b.costs.map I)),.ms 8 b.heard.length 0 b.heard.length 8 false] with|some ts=>some (.agg ts)|none=>none):=by rw [snap]; rfl
     rw [this]
     simp only [mapO,snp_t,e8]
     rfl
    have hel:elemsOf hx 5 (.ms 7 w.bs.length 0 w.bs.length 5 false)=some (((w.bs.map encX).map AV.t).set n (.agg [.t (I b.p),.t (I b.n),.t (.sl q1 1 (b.ports.map I)),.t (.sl q2 1 (b.costs.map I)),.ms 8 b.heard.length 0 b.heard.length 8 false])):=by
     rw [el_full (by rw [h7]; exact ⟨rfl,hSs _,Nat.le_refl _⟩),h7]; rfl
    have es:=snap_set (enc:=encX) (h:=hx) (p:=p) (d:=19) (l:=w.bs) (n:=n) ev
    simp only [frz,frzCell,avoid,p7,Bool.not_true,Bool.false_eq_true,if_false,snap,if_true,hel,es]
   obtain ⟨w',hw'⟩:∃ w':Nw,w'=⟨w.t,w.prios,w.down,w.bs.set n (ghX ⟨false,q1,q2,q3,b⟩ j g.h)⟩:=⟨_,rfl⟩
   have fA:∀ (hx:Heap) (p:Nat→Bool),p 7=true→p 8=true→hx[7]? = some (.row 5 (((w.bs.map encX).map AV.t).set n (.agg [.t (I b.p),.t (I b.n),.t (.sl q1 1 (b.ports.map I)),.t (.sl q2 1 (b.costs.map I)),.ms 8 b.heard.length 0 b.heard.length 8 false])) w.bs.length) →
     hx[8]? = some (.row 8 (((b.heard.set j (heardAs g.h)).map encH).map AV.t) b.heard.length)→frz hx p (.agg [.t (I w.t.nodes),.t (.sl f.st 1 (w.t.station.map B)),.t (.sl f.lk 4 (w.t.links.map encK)),.t (.sl f.pr 1 (w.prios.map I)),.t (.sl f.dn 1 (w.down.map B)),.ms 7 w.bs.length 0 w.bs.length 5 false])=some (.t (nwT ⟨f.st,f.lk,f.pr,f.dn,false⟩ w')):=by
    intro hx p p7 p8 h7 h8
    have ha:avoidAll p [.t (I w.t.nodes),.t (.sl f.st 1 (w.t.station.map B)),.t (.sl f.lk 4 (w.t.links.map encK)),.t (.sl f.pr 1 (w.prios.map I)),.t (.sl f.dn 1 (w.down.map B)),.ms 7 w.bs.length 0 w.bs.length 5 false]=false:=by simp [avoidAll,avoid,p7]
    have h3:=fz7 hx p p7 p8 h7 h8
    rw [frz_aggN (cs':=[.t (I w.t.nodes),.t (.sl f.st 1 (w.t.station.map B)),.t (.sl f.lk 4 (w.t.links.map encK)),.t (.sl f.pr 1 (w.prios.map I)),.t (.sl f.dn 1 (w.down.map B)),.t (.sl false 5 ((w.bs.set n (ghX ⟨false,q1,q2,q3,b⟩ j g.h)).map encX))]) ha (by simp only [mapO,frzCell_t,frzCell_ms,h3])]
    rw [hw']
    rfl
   have f6:∀ (hx:Heap) (p:Nat→Bool),p 7=true→p 8=true→hx[7]? = some (.row 5 (((w.bs.map encX).map AV.t).set n (.agg [.t (I b.p),.t (I b.n),.t (.sl q1 1 (b.ports.map I)),.t (.sl q2 1 (b.costs.map I)),.ms 8 b.heard.length 0 b.heard.length 8 false])) w.bs.length) →
     hx[8]? = some (.row 8 (((b.heard.set j (heardAs g.h)).map encH).map AV.t) b.heard.length)→frzObj hx p (.row 6 [.agg [.t (I w.t.nodes),.t (.sl f.st 1 (w.t.station.map B)),.t (.sl f.lk 4 (w.t.links.map encK)),.t (.sl f.pr 1 (w.prios.map I)),.t (.sl f.dn 1 (w.down.map B)),.ms 7 w.bs.length 0 w.bs.length 5 false]] 1)=some (.row 6 [.t (nwT ⟨f.st,f.lk,f.pr,f.dn,false⟩ w')] 1):=by
    intro hx p p7 p8 h7 h8
    have h3:=fA hx p p7 p8 h7 h8
    have ha2:avoidAll p [.agg [.t (I w.t.nodes),.t (.sl f.st 1 (w.t.station.map B)),.t (.sl f.lk 4 (w.t.links.map encK)),.t (.sl f.pr 1 (w.prios.map I)),.t (.sl f.dn 1 (w.down.map B)),.ms 7 w.bs.length 0 w.bs.length 5 false]]=false:=by simp [avoidAll,avoid,p7]
    simp only [frzObj,ha2,mapO,h3,Bool.false_eq_true,if_false]
   rw [← hw'] at hCk hk hgw
   have hCk':=hCk ⟨f.st,f.lk,f.pr,f.dn,false⟩
   simp only [nwT] at hCk'
   by_cases hq:okN w'=true
   ·rw [if_pos hq] at hCk' hk hgw
    dsimp only at hk hgw
    have hI:VN w'∧w'.t=dTopo d∧w'.prios=s0.2.prios∧w'.down=s0.2.down:=⟨hgw.1,hgw.2.1.trans ht,hgw.2.2.1.trans hpr,hgw.2.2.2.trans hdn⟩
    (repeat' first|simp only [freshK_app,List.replicate_succ,List.replicate_zero,List.drop_succ_cons,List.drop_zero,List.cons_append,List.nil_append,go_sem,hs,av_map,List.drop_succ_cons,List.drop_zero,u2,t2,v2,hm0,hcx,gx,gxr,hSl,gSs,hSs,gho,hnm,hset8,hl8,fz7,fA,f6,hgi,hjl,prd1,prd2,frz_rowG',hCk']|(with_reducible first|apply wD|apply wT|(apply wM; intro)|(apply wL; intro))|((with_reducible first|refine wA ?_ ?_|refine wE ?_); rfl))
    all_goals (refine hk _ _ ⟨?_,hI,?_⟩ <;> simp only [go_sem,hs,hw])
   ·rw [if_neg hq] at hCk' hk hgw
    dsimp only at hk hgw
    have hI:VN w∧w.t=dTopo d∧w.prios=s0.2.prios∧w.down=s0.2.down:=⟨hv,ht,hpr,hdn⟩
    (repeat' first|simp only [freshK_app,List.replicate_succ,List.replicate_zero,List.drop_succ_cons,List.drop_zero,List.cons_append,List.nil_append,go_sem,hs,av_map,List.drop_succ_cons,List.drop_zero,u2,t2,v2,hm0,hcx,gx,gxr,hSl,gSs,hSs,gho,hnm,hset8,hl8,fz7,fA,f6,hgi,hjl,prd1,prd2,frz_rowG',hCk']|(with_reducible first|apply wD|apply wT|(apply wM; intro)|(apply wL; intro))|((with_reducible first|refine wA ?_ ?_|refine wE ?_); rfl))
    all_goals (refine hk _ _ ⟨?_,hI,?_⟩ <;> simp only [go_sem,hs,hw])
 ·intro s e h Y R' hlt ⟨hs,hI,hh⟩ hk
  subst hh
  (repeat' first|simp only [il8l1_go,il8l1b,go_sem,hs,hlt]|(with_reducible first|apply wD|apply wT|(apply wM; intro)|(apply wL; intro))|((with_reducible first|refine wA ?_ ?_|refine wE ?_); rfl))
  all_goals (refine hk _ _ _ ⟨?_,rfl,hI,rfl⟩; simp only [go_sem,hs,id])
 ·intro x e h ⟨h1,h2,h3,h4⟩
  rw [foldC_lst] at h3 h4
  subst h2 h4
  exact hR _ _ rfl h3 h1
end Go.Proofs.Ytbibdnlbpjnieaa
namespace Go.Proofs.Ytbibdnlbpjnieaa
open Go Go.Abs
def ctW (s:Fl × Nw) (c:Int):Fl × Nw:=(⟨false,false,false,false,true⟩,⟨s.2.t,s.2.prios,s.2.down.set (c % (s.2.t.links.length:Nat)).toNat true,cutL s.2 (c % (s.2.t.links.length:Nat)).toNat⟩)
theorem ctW_ok {s:Fl × Nw} (h:VN s.2) (c:Int):VN (ctW s c).2∧(ctW s c).2.t=s.2.t∧(ctW s c).2.prios=s.2.prios:=⟨h.cut _,rfl,rfl⟩
end Go.Proofs.Ytbibdnlbpjnieaa
namespace Go.Proofs.Ytbibdnlbpjnieaa
open Go Go.Abs
def mdN (d:Dr) (prios:List Int):Fl × Nw:=(⟨false,false,false,false,true⟩,⟨dTopo d,prWs (brN d+stN d) prios,List.replicate (dTopo d).links.length false,newL (newW (dTopo d) (prWs (brN d+stN d) prios))⟩)
def mdG (d:Dr) (prios:List Int) (ghs:List Gh):Fl × Nw:=(ghs.take 12).foldl ghW (mdN d prios)
def mdW (d:Dr) (prios cuts:List Int) (ghs:List Gh):Fl × Nw:=(cuts.take 3).foldl ctW (mdG d prios ghs)
theorem mdN_ok {d:Dr} (hd:drP d) {prios:List Int} (hp:u8P prios):VN (mdN d prios).2∧(mdN d prios).2.t=dTopo d:=by
 have hok:=dTopo_ok hd
 have hpr:=prWs_ok hok hp
 have hNn:(dTopo d).nodes.toNat=brN d+stN d:=by show ((brN d+stN d:Nat):Int).toNat=_; omega
 rw [hNn] at hpr
 exact ⟨VN.new hok hpr,rfl⟩
theorem mdG_ok {d:Dr} (hd:drP d) {prios:List Int} (hp:u8P prios) (ghs:List Gh):VN (mdG d prios ghs).2∧(mdG d prios ghs).2.t=dTopo d∧(mdG d prios ghs).2.down=(mdN d prios).2.down∧(mdG d prios ghs).2.prios=(mdN d prios).2.prios:=by
 unfold mdG
 obtain ⟨h1,h2⟩:=mdN_ok hd hp
 generalize mdN d prios=s at *
 suffices h:∀ (l:List Gh) (s:Fl × Nw),VN s.2→VN (l.foldl ghW s).2∧(l.foldl ghW s).2.t=s.2.t∧(l.foldl ghW s).2.down=s.2.down∧(l.foldl ghW s).2.prios=s.2.prios by
  obtain ⟨a,b,c,e⟩:=h (ghs.take 12) s h1
  exact ⟨a,b.trans h2,c,e⟩
 intro l
 induction l with
 | nil=>intro s h; exact ⟨h,rfl,rfl,rfl⟩
 | cons g l ih =>
  intro s h
  obtain ⟨a,b,c,e⟩:=ghW_ok h g
  obtain ⟨a',b',c',e'⟩:=ih (ghW s g) a
  exact ⟨a',b'.trans b,c'.trans e,e'.trans c⟩
theorem mdW_ok {d:Dr} (hd:drP d) {prios:List Int} (hp:u8P prios) (cuts:List Int) (ghs:List Gh):VN (mdW d prios cuts ghs).2∧(mdW d prios cuts ghs).2.t=dTopo d:=by
 unfold mdW
 obtain ⟨h1,h2,_,_⟩:=mdG_ok hd hp ghs
 generalize mdG d prios ghs=s at *
 suffices h:∀ (l:List Int) (s:Fl × Nw),VN s.2→VN (l.foldl ctW s).2∧(l.foldl ctW s).2.t=s.2.t by
  obtain ⟨a,b⟩:=h (cuts.take 3) s h1
  exact ⟨a,b.trans h2⟩
 intro l
 induction l with
 | nil=>intro s h; exact ⟨h,rfl⟩
 | cons c l ih =>
  intro s h
  obtain ⟨a,b,_⟩:=ctW_ok h c
  obtain ⟨a',b'⟩:=ih (ctW s c) a
  exact ⟨a',b'.trans b⟩
end Go.Proofs.Ytbibdnlbpjnieaa
namespace Go.Proofs.Ytbibdnlbpjnieaa
open Go Go.Abs
theorem made_ansN (c1 c2 c3 c4 cp cg:Bool) (d:Dr) (hd:drP d) (prios:List Int) (ghs:List Gh) (hp:u8P prios) (hg:ghP ghs) :
  ans Try.prog pol 8 [drT c1 c2 c3 c4 d,.sl cp 1 (prios.map U8),.sc (.slice none 0 0),.sl cg 9 (ghs.map encG)]=some (.tup [nwT (mdW d prios [] ghs).1 (mdW d prios [] ghs).2,B true]):=by
 obtain ⟨b1,b2,b3⟩:=brN_bd hd
 obtain ⟨s1,s2,s3⟩:=stN_bd hd
 have kT:=Topo_ans c1 c2 c3 c4 d hd
 have hok:=dTopo_ok hd
 have hpr:=prWs_ok hok hp
 have hNn:(dTopo d).nodes.toNat=brN d+stN d:=by show ((brN d+stN d:Nat):Int).toNat=_; omega
 rw [hNn] at hpr
 have kN:=New_ok false false false (dTopo d) (prWs (brN d+stN d) prios) hok hpr
 have hVN:=mdN_ok hd hp
 have hpl:(prWs (brN d+stN d) prios).length=brN d+stN d:=by simp [prWs]
 have kN':ans Try.prog pol 15 [tpT false false (dTopo d),.sl false 1 ((prWs (brN d+stN d) prios).map I)]=some (.tup [nwT (mdN d prios).1 (mdN d prios).2,I 0]):=kN
 generalize hs0:mdN d prios=s0 at *
 have hg12:ghP (ghs.take 12):=⟨fun g h=>hg.1 g (List.mem_of_mem_take h),by have:=hg.2; simp; omega⟩
 have hgt:(ghs.map encG).take 12=(ghs.take 12).map encG:=List.map_take.symm
 obtain ⟨nn,h2000⟩:∃ nn,2000 < nn+1:=⟨2001,by omega⟩
 have hn1:1000 < nn+1:=by omega
 refine ans_go (nn+1) 5 il8_eq (Nat.le_of_ble_eq_true rfl) ?_
 simp only [il8c]
 (repeat' first|simp only [List.cons_append,List.nil_append,go_sem,kT]|(with_reducible first|apply wD|apply wT|(apply wM; intro)|(apply wL; intro))|((with_reducible first|refine wA ?_ ?_|refine wE ?_); rfl))
 refine made_l0 d hd cp prios hp (.sc (.slice none 0 0)) (.sl cg 9 (ghs.map encG)) 5 (nn+1) (by omega) _ _ (by simp only [go_sem]; rfl) ?_
 intro e ⟨e2,e3,e8,e10,e11⟩
 have his:rowIs 1 (brN d+stN d) (some (rowG 1 I (prWs (brN d+stN d) prios))):=by have:=rowG_is (k:=1) (enc:=I) (l:=prWs (brN d+stN d) prios); rwa [hpl] at this
 have hmg:=mdG_ok hd hp ghs
 have hmw:=mdW_ok hd hp [] ghs
 have hG:mdG d prios ghs=(ghs.take 12).foldl ghW s0:=by rw [mdG,hs0]
 have hW:mdW d prios [] ghs=mdG d prios ghs:=rfl
 have hnG:namesObj (some (rowG 1 I (prWs (brN d+stN d) prios)))=[]:=by rw [rowG_eq,nm_row,nm_map]
 have fzl:∀ (hx:Heap) (p:Nat→Bool),p 2=true→hx[2]? = some (rowG 1 I (prWs (brN d+stN d) prios))→frz hx p (.ms 2 (brN d+stN d) 0 (brN d+stN d) 1 false)=some (.t (.sl false 1 ((prWs (brN d+stN d) prios).map I))):=fun hx p hp' hg'=>frz_msr (l:=prWs (brN d+stN d) prios) hp' hg' (Nat.zero_le _) hpl.symm
 have hm12:(if 12 < ((ghs.length:Nat):Int) then (12:Int) else ((ghs.length:Nat):Int))=((min 12 ghs.length:Nat):Int):=by split <;> omega
 have htk:List.take (min 12 ghs.length) (ghs.map encG)=(ghs.take 12).map encG:=by rw [← hgt,List.take_eq_take_min (i:=12) (l:=ghs.map encG),List.length_map]
 have hq1:min 12 ghs.length≤ghs.length:=Nat.min_le_right _ _
 have hl12:(ghs.take 12).length=min 12 ghs.length:=by simp
 generalize hGL:ghs.take 12=gl at *
 generalize hdc:decide (min 12 ghs.length=ghs.length)=b12 at *
 (repeat' first|simp only [List.cons_append,List.nil_append,go_sem,e2,e3,e8,e10,e11,kN',his,fzl,hnG,rowG_is,rowG_es,rowG_mr,frz_rowG',hm12,htk,hq1,hdc]|(with_reducible first|apply wD|apply wT|(apply wM; intro)|(apply wL; intro))|((with_reducible first|refine wA ?_ ?_|refine wE ?_); rfl))
 refine made_l1 d hd (cg && b12) gl hg12 (.sc (.slice none 0 0)) s0 hVN.1 hVN.2 3 (nn+1) hn1 _ _ (by omega) (by simp only [go_sem]) ?_
 clear e2 e3 e8 e10 e11
 intro e s hs ⟨j1,j2,j3,j4⟩ ⟨e2,e8,e10,e14,e15⟩
 rw [← hG] at hs
 have slN:iSlice 1 (.t (.sc (.slice none 0 0))) none (some (.t (.sc (.int .i64 0)))) none=some (.t (.sc (.slice none 0 0))):=by rfl
 rw [hW,← hs]
 (repeat' first|simp only [List.cons_append,List.nil_append,go_sem,e2,e8,e10,e14,e15,slN]|(with_reducible first|apply wD|apply wT|(apply wM; intro)|(apply wL; intro))|((with_reducible first|refine wA ?_ ?_|refine wE ?_); rfl)|((with_reducible refine iter_unroll (body:=wc _ _ _ _ _ _ il8l2) ?_ ?_); exact Nat.le_of_ble_eq_true rfl; simp only [il8l2_go,il8l2b]))
end Go.Proofs.Ytbibdnlbpjnieaa
namespace Go.Proofs.Ytbibdnlbpjnieaa
structure Msg where
 r:Int
 c:Int
 s:Int
 p:Int
 g:Int
def mlt (x y:Msg):Prop:=x.r < y.r∨x.r=y.r∧(x.c < y.c∨x.c=y.c∧(x.s < y.s∨x.s=y.s∧x.p < y.p))
instance (x y:Msg):Decidable (mlt x y):=inferInstanceAs (Decidable (_∨_))
structure Top where
 r:Int
 c:Int
 via:Option Nat
 g:Int
def clmM (t:Top) (k:Int) (q:Nat):Msg:=⟨t.r,t.c,k,(q:Nat),t.g⟩
def roleM (h:Option Msg) (t:Top) (k:Int) (q:Nat):Int:=if t.via=some q then 1 else if h=none∨∃ m,h=some m∧mlt (clmM t k q) m then 2 else 3
def rcvM:Option Msg→Option Msg→Option Msg
 | o,none=>o
 | none,some h=>some h
 | some o,some h=>if (o.s=h.s∧o.p=h.p)∨¬ mlt o h then some h else some o
def tickM:Option Msg→Option Msg
 | none=>none
 | some m=>if 20 < m.g+1 then none else some ⟨m.r,m.c,m.s,m.p,m.g+1⟩
def lx3 (a b c a' b' c':Int):Prop:=a < a'∨a=a'∧(b < b'∨b=b'∧c < c')
instance (a b c a' b' c':Int):Decidable (lx3 a b c a' b' c'):=inferInstanceAs (Decidable (_∨_))
structure Net where
 N:Nat
 U:Nat→Prop
 fr:Nat→Nat
 to:Nat→Nat
 bk:Nat→Nat
 per:Nat→Int
 κ:Nat→Int
 F:Nat→Nat
 D:Nat→Int
 bst:Nat→Nat
structure NetOk (X:Net):Prop where
 fr:∀ q,X.U q→X.fr q < X.N
 to:∀ q,X.U q→X.to q < X.N
 bk:∀ q,X.U q→X.U (X.bk q)∧X.fr (X.bk q)=X.to q∧X.to (X.bk q)=X.fr q∧X.bk (X.bk q)=q∧X.per (X.bk q)=X.per q
 per:∀ q,X.U q→1≤X.per q
 ne:∀ q,X.U q→X.fr q≠X.to q
 inj:∀ i j,i < X.N→j < X.N→X.κ i=X.κ j→i=j
 same:∀ q,X.U q→X.F (X.fr q)=X.F (X.to q)
 le:∀ i,i < X.N→X.κ (X.F i)≤X.κ i∧X.F i < X.N
 edge:∀ q,X.U q→X.D (X.fr q)≤X.D (X.to q)+X.per q
 root:∀ i,i < X.N→X.F i=i→X.D i=0
 nn:∀ i,i < X.N→0≤X.D i
 bd:∀ i,i < X.N→X.D i≤1048576
 N:X.N≤12
 bst:∀ i,i < X.N→X.F i≠i→X.U (X.bst i)∧X.fr (X.bst i)=i∧X.D i=X.D (X.to (X.bst i))+X.per (X.bst i) ∧
  ∀ q,X.U q→X.fr q=i→q≠X.bst i→lx3 (X.D (X.to (X.bst i))+X.per (X.bst i)) (X.κ (X.to (X.bst i))) (X.bk (X.bst i):Nat) (X.D (X.to q)+X.per q) (X.κ (X.to q)) (X.bk q:Nat)
def leadsM (X:Net) (H:Nat→Option Msg) (q:Nat) (m:Msg):Prop:=H q=some m∧m.c+X.per q≤1048576∧m.r < X.κ (X.fr q)
def offM (X:Net) (q:Nat) (m:Msg):Msg:=⟨m.r,m.c+X.per q,m.s,m.p,m.g⟩
def TopOk (X:Net) (H:Nat→Option Msg) (n:Nat) (t:Top):Prop :=
 (t=⟨X.κ n,0,none,0⟩∧∀ q m,X.U q→X.fr q=n→¬ leadsM X H q m) ∨
 ∃ q m,X.U q∧X.fr q=n∧leadsM X H q m∧t=⟨m.r,m.c+X.per q,some q,m.g⟩∧∀ q' m',X.U q'→X.fr q'=n→leadsM X H q' m'→¬ mlt (offM X q' m') (offM X q m)
def sentM (h:Option Msg) (t:Top) (k:Int) (q:Nat):Option Msg:=if roleM h t k q=2 then some (clmM t k q) else none
def goalM (X:Net) (q:Nat):Int:=if X.F (X.fr q)≠X.fr q∧q=X.bst (X.fr q) then 1 else
 if lx3 (X.D (X.fr q)) (X.κ (X.fr q)) (q:Nat) (X.D (X.to q)) (X.κ (X.to q)) (X.bk q:Nat) then 2 else 3
structure Real (X:Net) (q:Nat) (m:Msg):Prop where
 s:m.s=X.κ (X.to q)
 p:m.p=(X.bk q:Nat)
 r:X.κ (X.F (X.to q))≤m.r
 c:m.r=X.κ (X.F (X.to q))→X.D (X.to q)≤m.c
section
variable (X:Net) (ok:NetOk X) (H:Nat→Nat→Option Msg) (t:Nat→Nat→Top)
 (hg:∀ T q m,X.U q→H T q=some m→0≤m.g∧m.g≤20)
 (ht:∀ T q,X.U q→TopOk X (H T) (X.fr q) (t T (X.fr q)))
 (hs:∀ T q,X.U q→H (T+1) q=tickM (rcvM (H T q) (sentM (H T (X.bk q)) (t T (X.to q)) (X.κ (X.to q)) (X.bk q))))
theorem sentM_some {h:Option Msg} {t:Top} {k:Int} {q:Nat} {m:Msg} (e:sentM h t k q=some m):m=clmM t k q:=by
 unfold sentM at e
 split at e
 ·exact (Option.some.inj e).symm
 ·cases e
theorem rcvM_some {o h:Option Msg} {m:Msg} (e:rcvM o h=some m):o=some m∨h=some m:=by
 cases o with
 | none=>cases h with
  | none=>cases e
  | some h=>exact .inr e
 | some o=>cases h with
  | none=>exact .inl e
  | some h =>
   simp only [rcvM] at e
   split at e
   ·exact .inr e
   ·exact .inl e
theorem tickM_some {o:Option Msg} {m:Msg} (e:tickM o=some m):∃ m',o=some m'∧m=⟨m'.r,m'.c,m'.s,m'.p,m'.g+1⟩:=by
 cases o with
 | none=>cases e
 | some o =>
  simp only [tickM] at e
  split at e
  ·cases e
  ·exact ⟨o,rfl,(Option.some.inj e).symm⟩
include ok in
theorem real_top {T:Nat} {n:Nat} {s:Top} (hn:n < X.N) (h:TopOk X (H T) n s) (hr:∀ q m,X.U q→X.fr q=n→s.via=some q→H T q=some m→s.g=m.g→Real X q m) :
  X.κ (X.F n)≤s.r∧(s.r=X.κ (X.F n)→X.D n≤s.c):=by
 rcases h with ⟨rfl,_⟩|⟨q,m,hq,hf,hl,rfl,_⟩
 ·have h1:=ok.le n hn
  refine ⟨h1.1,fun h=>?_⟩
  have:=ok.inj n (X.F n) hn h1.2 h
  have:=ok.root n hn this.symm
  simp only; omega
 ·have h1:=hr q m hq hf rfl hl.1 rfl
  have h2:=ok.same q hq
  have h3:=ok.edge q hq
  rw [hf] at h2 h3
  rw [h2]
  refine ⟨h1.r,fun h=>?_⟩
  have:=h1.c h
  simp only; omega
include ok hg ht hs in
theorem real_age:∀ T q m,X.U q→H T q=some m→m.g < T→Real X q m:=by
 intro T
 induction T with
 | zero=>intro q m hq hm h; have:=(hg 0 q m hq hm).1; omega
 | succ T ih =>
  intro q m hq hm h
  rw [hs T q hq] at hm
  obtain ⟨m',e,rfl⟩:=tickM_some hm
  simp only at h
  rcases rcvM_some e with e|e
  ·have h1:=ih q m' hq e (by omega)
   exact ⟨h1.s,h1.p,h1.r,h1.c⟩
  ·have hb:=ok.bk q hq
   have h2:=ht T (X.bk q) hb.1
   rw [hb.2.1] at h2
   have h3:=sentM_some e
   subst h3
   have h4:=real_top X ok H (T:=T) (n:=X.to q) (ok.to q hq) h2 (fun q' m' hq' hf' hv hm' hg'=>ih q' m' hq' hm' (by simp only [clmM] at h; omega))
   exact ⟨rfl,rfl,h4.1,h4.2⟩
include ok hg ht hs in
theorem real_all {T:Nat} (hT:21≤T) {q:Nat} {m:Msg} (hq:X.U q) (hm:H T q=some m):Real X q m :=
 real_age X ok H t hg ht hs T q m hq hm (by have:=(hg T q m hq hm).2; omega)
def lvM (X:Net) (i:Nat):Nat:=cnt X.N (fun k=>decide (X.D k < X.D i))
theorem lvM_lt {i j:Nat} (hi:i < X.N) (h:X.D i < X.D j):lvM X i+1≤lvM X j :=
 cnt_lt (fun k _ hk=>by have:=of_decide_eq_true hk; exact decide_eq_true (by omega)) hi (decide_eq_false (by omega)) (decide_eq_true h)
theorem lvM_N {i:Nat} (hi:i < X.N):lvM X i+1≤X.N:=by
 have:=cnt_lt (N:=X.N) (S:=fun k=>decide (X.D k < X.D i)) (S':=fun _=>true) (fun _ _ _=>rfl) hi (decide_eq_false (by omega)) rfl
 have:=cnt_le X.N (fun _=>true)
 unfold lvM
 omega
def goodM (X:Net) (i:Nat) (s:Top):Prop:=s.r=X.κ (X.F i)∧s.c=X.D i∧(s.via=if X.F i=i then none else some (X.bst i))∧s.g≤lvM X i
include ok hg ht hs in
theorem sent_good {T:Nat} (hT:21≤T) {q:Nat} (hq:X.U q) (h:goodM X (X.fr q) (t T (X.fr q))) (hl:lx3 (X.D (X.fr q)) (X.κ (X.fr q)) (q:Nat) (X.D (X.to q)) (X.κ (X.to q)) (X.bk q:Nat)) :
  sentM (H T q) (t T (X.fr q)) (X.κ (X.fr q)) q=some ⟨X.κ (X.F (X.fr q)),X.D (X.fr q),X.κ (X.fr q),(q:Nat),(t T (X.fr q)).g⟩:=by
 obtain ⟨h1,h2,h3,h4⟩:=h
 have hv:(t T (X.fr q)).via≠some q:=by
  rw [h3]
  split
  ·intro h; cases h
  ·rename_i hF
   intro h
   have hb:=(ok.bst (X.fr q) (ok.fr q hq) hF).2.2.1
   rw [Option.some.inj h] at hb
   have:=ok.per q hq
   unfold lx3 at hl
   omega
 have hr:roleM (H T q) (t T (X.fr q)) (X.κ (X.fr q)) q=2:=by
  unfold roleM
  rw [if_neg hv,if_pos]
  cases hm:H T q with
  | none=>exact .inl rfl
  | some m =>
   refine .inr ⟨m,rfl,?_⟩
   have h5:=real_all X ok H t hg ht hs hT hq hm
   have h6:=ok.same q hq
   have h7:=h5.r
   have h8:=h5.c
   rw [← h6] at h7 h8
   have h9:=h5.s
   have h10:=h5.p
   unfold lx3 at hl
   simp only [mlt,clmM,h1,h2]
   by_cases hh:m.r=X.κ (X.F (X.fr q))
   ·have:=h8 hh
    omega
   ·omega
 rw [sentM,if_pos hr]
 simp only [clmM,h1,h2]
include ok hg ht hs in
theorem good_all:∀ (k i:Nat),(∃ q,X.U q∧X.fr q=i)→lvM X i≤k→∀ T,21+k≤T→goodM X i (t T i):=by
 intro k
 induction k with
 | zero =>
  intro i ⟨q0,hq0,hi⟩ hl T hT
  have hiN:i < X.N:=by rw [← hi]; exact ok.fr q0 hq0
  have h0:=ht T q0 hq0
  rw [hi] at h0
  have hF:X.F i=i:=by
   refine Classical.byContradiction fun hF=>?_
   obtain ⟨b1,b2,b3,_⟩:=ok.bst i hiN hF
   have:=ok.per _ b1
   have:=lvM_lt X (i:=X.to (X.bst i)) (j:=i) (ok.to _ b1) (by omega)
   omega
  rcases h0 with ⟨h0,_⟩|⟨q,m,hq,hf,hl,h0,_⟩
  ·rw [h0]
   have:=ok.root i hiN hF
   exact ⟨by rw [hF],by simp only; omega,by rw [if_pos hF],by simp only; omega⟩
  ·exfalso
   have h1:=real_all X ok H t hg ht hs (by omega) hq hl.1
   have h2:=ok.same q hq
   have h3:=h1.r
   have h4:=hl.2.2
   rw [hf] at h2 h4
   rw [← h2,hF] at h3
   omega
 | succ k ih =>
  intro i ⟨q0,hq0,hi⟩ hl T hT
  by_cases hlk:lvM X i≤k
  ·exact ih i ⟨q0,hq0,hi⟩ hlk T (by omega)
  have hiN:i < X.N:=by rw [← hi]; exact ok.fr q0 hq0
  have h0:=ht T q0 hq0
  rw [hi] at h0
  by_cases hF:X.F i=i
  ·rcases h0 with ⟨h0,_⟩|⟨q,m,hq,hf,hl,h0,_⟩
   ·rw [h0]
    have:=ok.root i hiN hF
    exact ⟨by rw [hF],by simp only; omega,by rw [if_pos hF],by simp only; omega⟩
   ·exfalso
    have h1:=real_all X ok H t hg ht hs (by omega) hq hl.1
    have h2:=ok.same q hq
    have h3:=h1.r
    have h4:=hl.2.2
    rw [hf] at h2 h4
    rw [← h2,hF] at h3
    omega
  ·obtain ⟨b1,b2,b3,b4⟩:=ok.bst i hiN hF
   obtain ⟨S,rfl⟩:∃ S,T=S+1:=⟨T - 1,by omega⟩
   generalize hb:X.bst i=b at *
   have hbk:=ok.bk b b1
   have hper:=ok.per b b1
   have hlv:=lvM_lt X (i:=X.to b) (j:=i) (ok.to _ b1) (by omega)
   have hlN:=lvM_N X hiN
   have hN:=ok.N
   have hgm:=ih (X.to b) ⟨X.bk b,hbk.1,hbk.2.1⟩ (by omega) S (by omega)
   have hgm':=hgm
   rw [← hbk.2.1] at hgm'
   have hst:=sent_good X ok H t hg ht hs (T:=S) (by omega) hbk.1 hgm' (by rw [hbk.2.1,hbk.2.2.1,b2]; unfold lx3; omega)
   rw [hbk.2.1] at hst
   have hstep:=hs S b b1
   rw [hst] at hstep
   have hrcv:∀ s:Msg,s.s=X.κ (X.to b)→s.p=(X.bk b:Nat)→rcvM (H S b) (some s)=some s:=by
    intro s e1 e2
    cases hm:H S b with
    | none=>rfl
    | some m =>
     have h5:=real_all X ok H t hg ht hs (by omega) b1 hm
     simp only [rcvM]
     rw [if_pos (.inl ⟨by rw [h5.s,e1],by rw [h5.p,e2]⟩)]
   rw [hrcv _ rfl rfl] at hstep
   have hag:=hgm.2.2.2
   have hg0:0≤(t S (X.to b)).g∨True:=.inr trivial
   simp only [tickM] at hstep
   rw [if_neg (by omega)] at hstep
   have hsame:=ok.same b b1
   rw [b2] at hsame
   have hle:=ok.le i hiN
   have hlt:X.κ (X.F i) < X.κ i:=by
    have:X.κ (X.F i)≠X.κ i:=fun h=>hF (ok.inj _ _ hle.2 hiN h)
    omega
   have hbd:=ok.bd i hiN
   have hlead:leadsM X (H (S+1)) b ⟨X.κ (X.F (X.to b)),X.D (X.to b),X.κ (X.to b),(X.bk b:Nat),(t S (X.to b)).g+1⟩:=by
    refine ⟨hstep,?_,?_⟩
    ·simp only; omega
    ·simp only; rw [b2,← hsame]; exact hlt
   rcases h0 with ⟨_,h0⟩|⟨q,m,hq,hf,hl',h0,h1⟩
   ·exact absurd hlead (h0 b _ b1 b2)
   ·have hqb:q=b:=by
     refine Classical.byContradiction fun hqb=>?_
     have h2:=real_all X ok H t hg ht hs (by omega) hq hl'.1
     have h3:=b4 q hq hf hqb
     have h4:=h1 b _ b1 b2 hlead
     apply h4
     have h5:=ok.same q hq
     rw [hf,] at h5
     have h6:=h2.r
     have h7:=h2.c
     have h8:=h2.s
     have h9:=h2.p
     rw [← h5] at h6 h7
     unfold lx3 at h3
     simp only [mlt,offM]
     rw [← hsame]
     by_cases hh:m.r=X.κ (X.F i)
     ·have:=h7 hh
      omega
     ·omega
    subst hqb
    have hm:=hl'.1
    rw [hstep] at hm
    have hm:=Option.some.inj hm
    subst hm
    rw [h0]
    refine ⟨by simp only; rw [hsame],by simp only; omega,by simp only; rw [if_neg hF,hb],by simp only; omega⟩
include ok hg ht hs in
theorem converges {T:Nat} (hT:21+X.N≤T) {q:Nat} (hq:X.U q):roleM (H T q) (t T (X.fr q)) (X.κ (X.fr q)) q=goalM X q:=by
 have hfN:=ok.fr q hq
 have htN:=ok.to q hq
 have hbk:=ok.bk q hq
 have hper:=ok.per q hq
 have hlf:=lvM_N X hfN
 have hlt:=lvM_N X htN
 have hN:=ok.N
 obtain ⟨h1,h2,h3,h4⟩:=good_all X ok H t hg ht hs (X.N - 1) (X.fr q) ⟨q,hq,rfl⟩ (by omega) T (by omega)
 have hv:(t T (X.fr q)).via=some q↔X.F (X.fr q)≠X.fr q∧q=X.bst (X.fr q):=by
  rw [h3]
  split
  ·rename_i hF
   exact ⟨fun h=>(by cases h),fun h=>absurd hF h.1⟩
  ·rename_i hF
   exact ⟨fun h=>⟨hF,(Option.some.inj h).symm⟩,fun h=>by rw [← h.2]⟩
 unfold roleM goalM
 by_cases hvia:(t T (X.fr q)).via=some q
 ·rw [if_pos hvia,if_pos (hv.1 hvia)]
 rw [if_neg hvia,if_neg (fun h=>hvia (hv.2 h))]
 have hsame:=ok.same q hq
 have hreal:∀ m,H T q=some m→Real X q m:=fun m hm=>real_all X ok H t hg ht hs (by omega) hq hm
 by_cases hl:lx3 (X.D (X.fr q)) (X.κ (X.fr q)) (q:Nat) (X.D (X.to q)) (X.κ (X.to q)) (X.bk q:Nat)
 ·rw [if_pos hl,if_pos]
  cases hm:H T q with
  | none=>exact .inl rfl
  | some m =>
   refine .inr ⟨m,rfl,?_⟩
   have h5:=hreal m hm
   have h7:=h5.r
   have h8:=h5.c
   rw [← hsame] at h7 h8
   have h9:=h5.s
   have h10:=h5.p
   unfold lx3 at hl
   simp only [mlt,clmM,h1,h2]
   by_cases hh:m.r=X.κ (X.F (X.fr q))
   ·have:=h8 hh
    omega
   ·omega
 ·rw [if_neg hl]
  obtain ⟨S,rfl⟩:∃ S,T=S+1:=⟨T - 1,by omega⟩
  have hne:X.κ (X.to q)≠X.κ (X.fr q):=fun h=>ok.ne q hq (ok.inj _ _ htN hfN h).symm
  have hl':lx3 (X.D (X.to q)) (X.κ (X.to q)) (X.bk q:Nat) (X.D (X.fr q)) (X.κ (X.fr q)) (q:Nat):=by
   unfold lx3 at hl ⊢
   omega
  have hgm:=good_all X ok H t hg ht hs (X.N - 1) (X.to q) ⟨X.bk q,hbk.1,hbk.2.1⟩ (by omega) S (by omega)
  have hgm':=hgm
  rw [← hbk.2.1] at hgm'
  have hst:=sent_good X ok H t hg ht hs (T:=S) (by omega) hbk.1 hgm' (by rw [hbk.2.1,hbk.2.2.1,hbk.2.2.2.1]; exact hl')
  rw [hbk.2.1] at hst
  have hstep:=hs S q hq
  rw [hst] at hstep
  have hrcv:∀ s:Msg,s.s=X.κ (X.to q)→s.p=(X.bk q:Nat)→rcvM (H S q) (some s)=some s:=by
   intro s e1 e2
   cases hm:H S q with
   | none=>rfl
   | some m =>
    have h5:=real_all X ok H t hg ht hs (by omega) hq hm
    simp only [rcvM]
    rw [if_pos (.inl ⟨by rw [h5.s,e1],by rw [h5.p,e2]⟩)]
  rw [hrcv _ rfl rfl] at hstep
  have hag:=hgm.2.2.2
  simp only [tickM] at hstep
  rw [if_neg (by omega)] at hstep
  rw [if_neg]
  rintro (h|⟨m,hm,hlt⟩)
  ·rw [hstep] at h; cases h
  ·rw [hstep] at hm
   have hm:=Option.some.inj hm
   subst hm
   unfold lx3 at hl'
   simp only [mlt,clmM,h1,h2] at hlt
   rw [← hsame] at hlt
   omega
end
end Go.Proofs.Ytbibdnlbpjnieaa
namespace Go.Proofs.Ytbibdnlbpjnieaa
open Go Go.Abs
theorem lex1 (a a':Int) (l l':List Int):cmpL (a::l) (a'::l') < 0↔a < a'∨a=a'∧cmpL l l' < 0:=by
 simp only [cmpL,cmp3]
 by_cases h1:a < a'
 ·simp [h1]
 ·by_cases h2:a' < a
  ·simp only [if_neg h1,if_pos h2]
   constructor
   ·intro h; simp at h
   ·rintro (h|⟨h,_⟩) <;> omega
  ·obtain rfl:a=a':=by omega
   simp
theorem lex0:¬ (cmpL [] [] < 0):=by simp [cmpL]
def num (h:Hd):Int:=((((16*h.a+h.b)*4194304+h.c)*16+h.d)*16+h.e)*64+h.f
structure Bnd (h:Hd):Prop where
 a:0≤h.a∧h.a < 16
 b:0≤h.b∧h.b < 16
 c:0≤h.c∧h.c < 4194304
 d:0≤h.d∧h.d < 16
 e:0≤h.e∧h.e < 16
 f:0≤h.f∧h.f < 64
theorem lt6_num {x y:Hd} (hx:Bnd x) (hy:Bnd y):lt6 x y < 0↔num x < num y:=by
 obtain ⟨a1,b1,c1,d1,e1,f1⟩:=hx
 obtain ⟨a2,b2,c2,d2,e2,f2⟩:=hy
 simp only [lt6,lex1,lex0,and_false,or_false,num]
 generalize x.a=xa at *
 generalize x.b=xb at *
 generalize x.c=xc at *
 generalize x.d=xd at *
 generalize x.e=xe at *
 generalize x.f=xf at *
 generalize y.a=ya at *
 generalize y.b=yb at *
 generalize y.c=yc at *
 generalize y.d=yd at *
 generalize y.e=ye at *
 generalize y.f=yf at *
 omega
theorem bnd_hello {h:Hd} (k:helloP h):Bnd h:=by
 obtain ⟨⟨⟨h1,h2⟩,⟨h3,h4⟩,h5,h6⟩,h7⟩:=k
 exact ⟨by omega,by omega,by omega,by omega,by omega,by omega⟩
theorem opF_spec (b:Br):((opF b).t=tp0 b∧∀ j,j < b.heard.length→leads b j=false) ∨
  ∃ i,i < b.heard.length∧leads b i=true∧(opF b).t=⟨(ofr b i).a,(ofr b i).b,(ofr b i).c,i,(ofr b i).g⟩∧∀ j,j < b.heard.length→leads b j=true→¬ lt6 (ofr b j) (ofr b i) < 0:=by
 have key:∀ (n:Nat),n≤b.heard.length→((((List.range n).foldl (ldS b (opS b)) ⟨tp0 b,zH,0⟩).t=tp0 b∧∀ j,j < n→leads b j=false) ∨
   ∃ i,i < n∧leads b i=true∧((List.range n).foldl (ldS b (opS b)) ⟨tp0 b,zH,0⟩).t=⟨(ofr b i).a,(ofr b i).b,(ofr b i).c,i,(ofr b i).g⟩∧((List.range n).foldl (ldS b (opS b)) ⟨tp0 b,zH,0⟩).m=ofr b i∧∀ j,j < n→leads b j=true→¬ lt6 (ofr b j) (ofr b i) < 0):=by
  intro n
  induction n with
  | zero=>intro _; left; exact ⟨rfl,fun j h=>absurd h (by omega)⟩
  | succ n ih =>
   intro hn
   have ih:=ih (by omega)
   rw [List.range_succ,List.foldl_append,List.foldl_cons,List.foldl_nil]
   generalize (List.range n).foldl (ldS b (opS b)) ⟨tp0 b,zH,0⟩=s at *
   unfold ldS
   by_cases hl:leads b n=true
   ·rw [if_pos hl]
    right
    rcases ih with ⟨h1,h2⟩|⟨i,h1,h2,h3,h4,h5⟩
    ·have hv:s.t.via < 0:=by rw [h1]; simp [tp0]
     rw [opS,if_pos (.inl hv)]
     refine ⟨n,by omega,hl,rfl,rfl,?_⟩
     intro j hj hlj
     by_cases hjn:j=n
     ·subst hjn; rw [lt6,cmpL_self]; omega
     ·rw [h2 j (by omega)] at hlj; exact (by cases hlj)
    ·have hv:¬ s.t.via < 0:=by rw [h3]; simp
     by_cases hq:lt6 (ofr b n) s.m < 0
     ·rw [opS,if_pos (.inr hq)]
      refine ⟨n,by omega,hl,rfl,rfl,?_⟩
      intro j hj hlj
      by_cases hjn:j=n
      ·subst hjn; rw [lt6,cmpL_self]; omega
      ·have hj':=h5 j (by omega) hlj
       rw [h4] at hq
       intro hc
       have:=cmpL_trans [(ofr b j).a,(ofr b j).b,(ofr b j).c,(ofr b j).d,(ofr b j).e,(ofr b j).f] [(ofr b n).a,(ofr b n).b,(ofr b n).c,(ofr b n).d,(ofr b n).e,(ofr b n).f] [(ofr b i).a,(ofr b i).b,(ofr b i).c,(ofr b i).d,(ofr b i).e,(ofr b i).f] rfl rfl (by unfold lt6 at hc; omega) (by unfold lt6 at hq; omega)
       unfold lt6 at hj' hc hq
       omega
     ·rw [opS,if_neg (by rintro (h|h); exact hv h; exact hq h)]
      refine ⟨i,by omega,h2,h3,h4,?_⟩
      intro j hj hlj
      by_cases hjn:j=n
      ·subst hjn; rw [h4] at hq; exact hq
      ·exact h5 j (by omega) hlj
   ·rw [if_neg hl]
    rcases ih with ⟨h1,h2⟩|⟨i,h1,h2,h3,h4,h5⟩
    ·left
     refine ⟨h1,fun j hj=>?_⟩
     by_cases hjn:j=n
     ·subst hjn; simpa using hl
     ·exact h2 j (by omega)
    ·right
     refine ⟨i,by omega,h2,h3,h4,?_⟩
     intro j hj hlj
     by_cases hjn:j=n
     ·subst hjn; exact absurd hlj hl
     ·exact h5 j (by omega) hlj
 rcases key b.heard.length (Nat.le_refl _) with h|⟨i,h1,h2,h3,h4,h5⟩
 ·exact .inl h
 ·exact .inr ⟨i,h1,h2,h3,h5⟩
end Go.Proofs.Ytbibdnlbpjnieaa
namespace Go.Proofs.Ytbibdnlbpjnieaa
open Go Go.Abs
def goalW (w:Nw) (n p:Nat):Int:=goalG w (distL w (rootsL w)) (bestL w (rootsL w) (distL w (rootsL w))) n p
theorem GoalT_ok (f:Fl) (w:Nw) (hz:zOk w) (hok:okN w=true):ans Try.prog pol 9 [nwT f w]=some (.tup [.sl true 1 ((asL w (goalW w)).map I),I 0]):=by
 have hO:=okN_ok hok hz
 obtain ⟨z1,z2,z3⟩:=okT_size hO.t
 have hpl:=rankL_len hO.rank
 have hbl:=hO.bl
 have k1:=CheckN_ans f w hz (by omega) (by omega)
 rw [if_pos hok] at k1
 have kg:=goal_ans f w hO.t hbl hpl hO.dl
 obtain ⟨hDl,hDb⟩:=distL_ok hO.t (rootsL w)
 have hbL:(bestL w (rootsL w) (distL w (rootsL w))).length=w.t.nodes.toNat:=by simp [bestL]; omega
 have k2:=assign_ans f w 50 _ (goalW w) hO.t hbl hO.dl rfl rfl (fun n p hn hs hp _=>goal2_ans f w true (distL w (rootsL w)) hO.t hpl hDl hDb true (bestL w (rootsL w) (distL w (rootsL w))) hbL n p (by omega) (trunk_lt hp))
 refine ans_go 2000 5 il9_eq (Nat.le_of_ble_eq_true rfl) ?_
 simp only [il9c]
 (repeat' first|simp only [List.cons_append,List.nil_append,go_sem,k1,kg,k2]|(with_reducible first|apply wD|apply wT|(apply wM; intro)|(apply wL; intro))|((with_reducible first|refine wA ?_ ?_|refine wE ?_); rfl))
end Go.Proofs.Ytbibdnlbpjnieaa
