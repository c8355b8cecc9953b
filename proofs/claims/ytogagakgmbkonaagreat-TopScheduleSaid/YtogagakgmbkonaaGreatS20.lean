/- Part 20 of the proof of TopSchedule. -/
import Derived.Test.YtogagakgmbkonaaGreatS19
import Derived.Maps.RangeRun
set_option linter.all false
set_option maxRecDepth 100000
set_option maxHeartbeats 4000000
namespace Go.Abs
open Go
variable{P:Program}{pol:c4}{K:eZ}{I:eY}{Z:hG}{D a5 D2:c8}{β a4 β2:dt}{w w' w0:World}{h ai ad:aj}{M:sX}{f:FuncId}{n dp:Nat}
theorem eO.KB(hw:∀ a,w'.cell? a=w.cell? a){v:Value}{x:T}(h:eO D w v x):eO D w' v x:=by
 induction h with
 | aA v az=>exact .aA v az
 | agg cs aq ao _ au=>exact .agg cs aq ao au
 | ch cs aq ao _ au=>exact .ch cs aq ao au
 | fn f a b x y ae ab _ _ tF qu=>exact .fn f a b x y ae ab tF qu
 | ip b off cs cR c af _ au=>exact .ip b off cs cR c (fun j aU=>⟨(hw _).trans (af j aU).1,(af j aU).2⟩) au
 | rF a cap clip k af=>exact .rF a cap clip k af
 | aP b off len cap clip k xs cR hlen fF gu an c af _ au=>exact .aP b off len cap clip k xs cR hlen fF gu an c (fun j aU=>⟨(hw _).trans (af j aU).1,(af j aU).2⟩) au
theorem bf.KB(hw:∀ a,w'.cell? a=w.cell? a)(al:∀ b n,jv w b=some n→jv w' b=some n){v:Value}{x:ah}(h:bf D β w v x):bf D β w' v x:=by
 induction h with
 | t v x h=>exact .t v x (h.KB hw)
 | agg cs aq ao _ au=>exact .agg cs aq ao au
 | ch cs aq ao _ au=>exact .ch cs aq ao au
 | fn f a b x y ae ab _ _ tF qu=>exact .fn f a b x y ae ab tF qu
 | ref o e i off b k ab=>exact .ref o e i off b k ab
 | k5 a o e i k clip bo=>exact .k5 a o e i k clip bo
 | ms o e i len k clip b cap n ab hle fF gu aw dn hex=>exact .ms o e i len k clip b cap n ab hle fF gu (al _ _ aw) dn hex
 | mp o b k ab=>exact .mp o b k ab
 | bF o b k ab=>exact .bF o b k ab
 | dead v=>exact .dead v
structure sS(r:Nat)(w w':World):Prop where
 sJ:∀ b,b≠r→w'.heap[b]? = w.heap[b]?
 qC:(∀ c ty bQ,w.heap[r]? ≠ some (.cells c ty bQ))∧∀ c ty bQ,w'.heap[r]? ≠ some (.cells c ty bQ)
 eU:(∀ ds,w.heap[r]? ≠ some (.deferred ds))∧∀ ds,w'.heap[r]? ≠ some (.deferred ds)
 nl:∀ L,w.heap[r]? ≠ some (.loop L)
 size:w'.heap.size=w.heap.size
 os:w'.os=w.os
 out:w'.output=w.output
theorem sS.cell{r:Nat}(ab:sS r w w')(a:Addr):w'.cell? a=w.cell? a:=by
 by_cases h:a.block=r
 ·have aT:∀(w:World),(∀ c ty bQ,w.heap[r]? ≠ some (.cells c ty bQ))→w.cell? a=none:=fun w hw=>by
   unfold World.cell?
   rw[h]
   split
   ·rename_i U;exact absurd U (hw _ _ _)
   all_goals rfl
  rw[aT w ab.qC.1,aT w' ab.qC.2]
 ·exact PK (ab.sJ _ h)
theorem sS.row{r:Nat}(ab:sS r w w')(b n:Nat)(h:jv w b=some n):jv w' b=some n:=by
 by_cases he:b=r
 ·subst he
  unfold jv at h
  split at h
  ·rename_i U;exact absurd U (ab.qC.1 _ _ _)
  ·cases h
 ·simp only[jv,ab.sJ b he];exact h
theorem sS.rep{r:Nat}(ab:sS r w w'){v:Value}{x:ah}(h:bf D β w v x):bf D β w' v x:=h.KB ab.cell ab.row
theorem e5.xe[cf]{r:Nat}(ab:sS r w w')(al:D r){o:Nat}{x:a9}(h:e5 D β w o x):e5 D β w' o x:=by
 cases x with
 | gone=>trivial
 | row k es aG =>
  refine⟨h.1,fun e b bg he=>?_⟩
  obtain⟨a3,a7,cz,eJ⟩:=h.2 e b bg he
  refine⟨a3,a7,cz,fun hm=>?_⟩
  obtain⟨c,ty,b9,b3,cG⟩:=eJ hm
  refine⟨c,ty,(ab.sJ b (fun e=>a3 (e ▸ al))).trans b9,b3,fun i x j t hi U ax=>?_⟩
  obtain⟨v,s1,s2,a8⟩:=cG i x j t hi U ax
  exact⟨v,s1,s2,ab.rep a8⟩
 | map es =>
  intro e b k he
  obtain⟨hC,a3,mes,clock,a7,cz,mh,eJ⟩:=h e b k he
  exact⟨hC,a3,mes,clock,(ab.sJ b (fun e=>a3 (e ▸ al))).trans a7,cz,mh,fun i m dF hm an=>⟨(eJ i m dF hm an).1,ab.rep (eJ i m dF hm an).2⟩⟩
 | loop f env params assign body busy pending =>
  intro e b k he
  obtain⟨hC,a3,L,a7,cz,eJ,gD,wC,wD,hk,Am⟩:=h e b k he
  exact⟨hC,a3,L,(ab.sJ b (fun e=>a3 (e ▸ al))).trans a7,cz,eJ,gD,wC,wD,hk,Am.1,fun i v x az U=>ab.rep (Am.2 i v x az U)⟩
theorem Inv.xe[cf]{r:Nat}(hi:Inv Z D β h w)(ab:sS r w w')(al:D r)(bG:Z.N≤r):Inv Z D β h w':=by
 refine⟨⟨by rw[ab.size];exact hi.g.jS,fun b aB=>(ab.sJ b (by omega)).trans (hi.g.dy b aB),ab.os.trans hi.g.os,ab.out.trans hi.g.out,fun b aF=>by rw[ab.size];exact hi.g.hV b aF,hi.g.lM,fun o e b k he=>by rw[ab.size];exact hi.g.blt o e b k he,hi.g.inj,fun b ds aF aw=>?_⟩,fun o x U=>(hi.obj o x U).xe ab al,hi.kk⟩
 by_cases he:b=r
 ·subst he;exact absurd aF (ab.eU.2 ds)
 ·rw[ab.sJ b he]at aF;exact hi.g.eU b ds aF aw
theorem hH.xe{r:Nat}(ay:hH pol D w)(ab:sS r w w'):hH pol D w':=by
 refine⟨fun g x U=>(ay.rep g x U).KB ab.cell,fun g aq U=>?_⟩
 obtain⟨aF,cs,ty,bQ,af,aw⟩:=ay.row g aq U
 exact⟨aF,cs,ty,bQ,(ab.sJ g (fun e=>by subst e;exact ab.qC.1 _ _ _ af)).trans af,aw⟩
theorem Marks.xe{r:Nat}{ds:List Deferred}(hm:Marks M w ds)(ab:sS r w w'):Marks M w' ds:=by
 obtain⟨rs,ad,ag,aJ⟩:=hm
 exact⟨rs,ad,ag,fun q aE=>⟨(aJ q aE).1,(ab.sJ q (fun e=>by subst e;exact ab.eU.1 _ (aJ q aE).2)).trans (aJ q aE).2⟩⟩
theorem Ext.xe{r:Nat}(U:Ext D β w0 a5 a4 w)(ab:sS r w w')(al:¬ D r):Ext D β w0 a5 a4 w' :=
 ⟨U.sub,fun b aF=>(ab.sJ b (fun e=>al (e ▸ aF))).trans (U.same b aF),U.oR,fun b n aw=>ab.row b n (U.rows b n aw),fun b ds aF=>(ab.sJ b (fun e=>by subst e;exact ab.eU.1 _ (U.defs b ds aF))).trans (U.defs b ds aF),
  fun b L eL=>by
  obtain⟨L',ad⟩:=U.loops b L eL
  exact⟨L',(ab.sJ b (fun e=>by subst e;exact ab.nl _ ad)).trans ad⟩,by rw[ab.size];exact U.size⟩
theorem alN[cf]{p:Nat→Bool}(ay:tl h p 0 h=some ad)(hi:Inv Z D β h w):Inv Z (iy D β p) β ad w∧(∀ tmps env,g3 D β w tmps env→g3 (iy D β p) β w tmps (uJ h p env)):=by
 obtain⟨a3,a7⟩:=YL ay
 have b4:∀(o:Nat) x,p o=true→h[o]? = some x→e5 D β w o x:=fun o x _ U=>hi.obj o x U
 have cR:∀ b,D b→iy D β p b:=fun b ab=>.inl ab
 have mq:∀ o e b k,p o=true→β o e=some (b,k)→iy D β p b:=fun o e b k av ab=>.inr ⟨o,e,k,av,ab⟩
 refine⟨⟨hi.g.iy _,fun o y ar=>?_,fun o e y ar=>by rw[← a3];exact hi.kk o e y ar⟩,fun tmps env he=>Qq b4 cR mq (fun _ _ _ _ h=>h) he⟩
 have aC:o<h.length:=by rw[a3];exact(cD.1 ar).1
 have U:h[o]? = some h[o]:=by simp
 rcases a7 o _ y U ar with⟨av,rfl⟩|⟨av,aI⟩
 ·trivial
 ·simp only[nD]at av
  exact Qr b4 cR mq (fun _ _ _ _ h=>h) (fun _ _ _ _ h=>h) (fun o e b k av ab aF=>PY hi.g av ab aF) av (hi.obj o _ U) aI
theorem arG[cf]{r:Nat}(hi:Inv Z D β h w)(al:r<w.heap.size)(bG:Z.N≤r)(qs:∀ o e k,β o e≠some (r,k))(km:∀ ds,w.heap[r]? ≠ some (.deferred ds)):Inv Z (qb D r) β h w∧Ext D β w (qb D r) β w:=by
 have U:Ext D β w (qb D r) β w:=⟨fun b ab=>.inl ab,fun _ _=>rfl,fun _ _ _ h=>h,fun _ _ h=>h,fun _ _ h=>h,fun _ L h=>⟨L,h⟩,bP _⟩
 have fg:∀ {o e b k},β o e=some (b,k)→¬ D b→¬ qb D r b:=fun{o e b k} ab aF h=>by
  rcases h with h|h
  ·exact aF h
  ·subst h;exact qs _ _ _ ab
 refine⟨⟨⟨hi.g.jS,hi.g.dy,hi.g.os,hi.g.out,fun b ab=>?_,fun b ab aB=>?_,hi.g.blt,hi.g.inj,fun b ds ab aw=>?_⟩,fun o x Sj=>?_,hi.kk⟩,U⟩
 ·rcases ab with ab|rfl
  ·exact hi.g.hV b ab
  ·exact al
 ·rcases ab with ab|rfl
  ·exact hi.g.lM b ab aB
  ·omega
 ·obtain⟨a3,a7⟩:=hi.g.eU b ds ab aw
  refine⟨fun h=>?_,a7⟩
  rcases h with h|rfl
  ·exact a3 h
  ·exact km ds ab
 ·have:=hi.obj o x Sj
  cases x with
  | gone=>trivial
  | row k es aG =>
   refine⟨this.1,fun e b bg ab=>?_⟩
   obtain⟨a3,a7,cz,eJ⟩:=this.2 e b bg ab
   refine⟨fg ab a3,a7,cz,fun hm=>?_⟩
   obtain⟨c,ty,b9,b3,cG⟩:=eJ hm
   refine⟨c,ty,b9,b3,fun i x j t fz dM ax=>?_⟩
   obtain⟨v,s1,s2,a8⟩:=cG i x j t fz dM ax
   exact⟨v,s1,s2,a8.mono U⟩
  | map es =>
   intro e b k ab
   obtain⟨hC,a3,mes,clock,a7,cz,mh,eJ⟩:=this e b k ab
   exact⟨hC,fg ab a3,mes,clock,a7,cz,mh,fun i m dF hm an=>⟨(eJ i m dF hm an).1,(eJ i m dF hm an).2.mono U⟩⟩
  | loop f env params assign body busy pending =>
   intro e b k ab
   obtain⟨hC,a3,L,a7,cz,eJ,gD,wC,wD,hk,Am⟩:=this e b k ab
   exact⟨hC,fg ab a3,L,a7,cz,eJ,gD,wC,wD,hk,Am.mono U⟩
structure OJ(e9 rg ee ex h0 aW cU:Oper)(mt:TypeId)(t5 t49 t50 t51 t52 t53 t54 t9:Tmp)(dp:Nat):Prop where
 hB:e9.op=.move (.tmp t5)∧e9.dst=some t49∧e9.guard=none
 h7:rg.op=.range mt (.tmp t49)∧rg.dst=some t50∧rg.guard=none
 Af:ee.op=.next (.tmp t50) false∧ee.dst=some t51∧ee.guard=none
 Ag:ex.op=.extract (.tmp t51) 0∧ex.dst=some t52∧ex.guard=none
 Nm:h0.op=.entry (.tmp t50)∧h0.dst=some t53∧h0.guard=none
 Nn:aW.op=.extract (.tmp t53) 1∧aW.dst=some t54∧aW.guard=none
 No:cU.op=.assign (.tmp t54)∧cU.dst=some t9∧cU.guard=none
 lt:t5<dp∧t49<dp∧t50<dp∧t51<dp∧t52<dp∧t53<dp∧t54<dp∧t9<dp
 ne:t50≠t51∧t50≠t52∧t50≠t53
def m0(r:Nat):ah:=.t (.aA (.pointer (some ⟨r,0,none⟩)))
def NF(e:aM)(t51 t52 t53 t54 t9:Tmp)(x:ah):aM:=eW (eW (eW (eW (eW e (some t51) .dead) (some t52) (.t (.aA (.bool true)))) (some t53) .dead) (some t54) x) (some t9) x
theorem yj{o:Oper}{a:Act}{v:Value}{ops:Array Oper}{rest:List Oper}{Q:Exit→Act→World→Prop}(aC:∀ c,o.op≠.defer c)(ay:o.guard=none)(al:(execOp a.eval o).run P w=.ok (.value v) w')(h:wpListIn (fu none) 0 P ops Q rest (a.put o.dst v) w'):wpListIn (fu none) 0 P ops Q (o::rest) a w:=by
 have hw:Region.wanted o (yielded ops a.tmps)=true:=by unfold Region.wanted;rw[ay]
 simp only[wpListIn,hw,cQ]
 refine⟨fun _ _=>trivial,?_⟩
 rw[Oper.semAt_eq _ _ _ aC,al,Oper.uponIn_value]
 exact h
theorem Bf{a:Act}{t:Tmp}{v:Value}(ax:t<a.tmps.size):(a.put (some t) v).eval (.tmp t)=v:=by
 simp[Act.eval,Act.put,r6,yZ,ax]
theorem size_put{a:Act}{t:Option Tmp}{v:Value}:(a.put t v).tmps.size=a.tmps.size:=by
 cases t<;>simp[Act.put]
theorem Ye{a:Act}{t s:Tmp}{v:Value}(dI:s≠t):(a.put (some t) v).eval (.tmp s)=a.eval (.tmp s):=by
 simp only[Act.eval,Act.put,r6]
 rw[OT (Ne.symm dI)]
theorem aib{r:Nat}{m:Option Nat}{s s' c c':Nat}{seen seen':Array Nat}{m':Option Nat}(al:w.heap[r]? = some (.mapIter m s seen c)){cI:World}(hw:cI=w∨cI=w.drew):sS r w (ChangeMaps.setBlock cI r (.mapIter m' s' seen' c'))∧(ChangeMaps.setBlock cI r (.mapIter m' s' seen' c')).heap[r]? = some (.mapIter m' s' seen' c'):=by
 have aB:=lU al
 have aY:cI.heap=w.heap:=by rcases hw with rfl|rfl<;>rfl
 have J:(ChangeMaps.setBlock cI r (.mapIter m' s' seen' c')).heap[r]? = some (.mapIter m' s' seen' c'):=by simp[ChangeMaps.setBlock,aY,aB]
 refine⟨⟨fun b ab=>?_,⟨(fun c ty bQ h=>by rw[al]at h;cases h),(fun c ty bQ h=>by rw[J]at h;cases h)⟩,⟨(fun ds h=>by rw[al]at h;cases h),(fun ds h=>by rw[J]at h;cases h)⟩,(fun L h=>by rw[al]at h;cases h),by simp[ChangeMaps.setBlock,aY],?_,?_⟩,J⟩
 ·simp only[ChangeMaps.setBlock,OT (Ne.symm ab),aY]
 ·rcases hw with rfl|rfl<;>rfl
 ·rcases hw with rfl|rfl<;>rfl
theorem av9[cf]{ok:List (Nat × Nat)→Array Oper→Bool}(fq:∀ f c,cf.ok f c↔codeOk pol ok f c=true)(dD:l2 P pol K)(bK:j9 P pol I)(h3:sT P pol K I ok)
  {e9 rg ee ex h0 aW cU:Oper} {mt:TypeId} {t5 t49 t50 t51 t52 t53 t54 t9:Tmp} (R:OJ e9 rg ee ex h0 aW cU mt t5 t49 t50 t51 t52 t53 t54 t9 dp) {i11 i12 db eG:Nat} {body:Code} (ck:codeOk pol ok f body=true)
  {e:aM} {es:List (Value × ah)} {r bm since:Nat} {mes:Array MapEntry} {clock:Nat} (dn:mes.size=es.length) (mh:ud mes clock) (HC:clock=since) {live:List Tmp}
  {Φ:Nat→Prop} {RR:aM→aj→Prop} {Q:Exit→Act→World→Prop} {Dz:c8} {βz:dt} {wz:World} (al8:¬ Dz r) (aml:M.1≤wz.heap.size)
  (sl:∀(i:Nat) dF,es[i]? = some dF→iO P pol K I n f (eS P pol f dp eG body) (fun x bs ai=>(x=.normal∧Φ i∧ai=ad∧∀ t,eR (some live) bs t=eR (some live) e t)∨(x=.ret∧RR bs ai)) (NF (eR (some live) e) t51 t52 t53 t54 t9 dF.2) ad)
  (D5:t50∈live∧e t50=m0 r) (zz:t51 ∉ live∧t52 ∉ live)
  (mR:(∀ i,i<es.length→Φ i)→∀ a5 a4 w' cb bz,fI dp (eR (some live) e) bz→St pol Z M a5 a4 ad w' none cb bz→Ext Dz βz wz a5 a4 w'→Q (.exit db) cb w')
  (R2:∀ bs ai a5 a4 w' cb bz,RR bs ai→fI dp bs bz→St pol Z M a5 a4 ai w' none cb bz→Ext Dz βz wz a5 a4 w'→Q .ret cb w')
  {D:c8} {β:dt} {w:World} {a:Act} {env:Env} (bG:Z.N≤r) (aS:St pol Z M D β ad w none a env) (kG:fI dp (eR (some live) e) env) (Ha:D r) (Lc:D bm) (al:w.heap[r]? = some (.mapIter (some bm) since #[] since)) (hm:w.heap[bm]? = some (.map mes clock))
  (uM:∀(i:Nat) m dF,mes[i]? = some m→es[i]? = some dF→bf D β w m.val dF.2) (LP:Ext Dz βz wz D β w) :
  (Code.loop (.seq (.region i11 #[ee,ex] false) (.seq (.cond (.tmp t52) .skip (.exit db)) (.block eG (.seq (.region i12 #[h0,aW,cU] false) body))))).wpIn (fu none) 0 P Q a w:=by
 subst HC
 refine wpIn_loop (fun a w=>∃ D β env seen c,St pol Z M D β ad w none a env∧fI dp (eR (some live) e) env∧D r∧D bm∧w.heap[r]? = some (.mapIter (some bm) clock seen c)∧clock≤c∧(∀(i:Nat) m,mes[i]? = some m→seen.contains m.born=true→Φ i)∧w.heap[bm]? = some (.map mes clock) ∧
   (∀(i:Nat) m dF,mes[i]? = some m→es[i]? = some dF→bf D β w m.val dF.2)∧Ext Dz βz wz D β w)
  (fun a w=>match w.heap[r]? with|some (.mapIter _ _ seen _)=>(leftOf mes seen).size|_=>0)
  ⟨D,β,env,#[],clock,aS,kG,Ha,Lc,al,bP _,fun i m _ h=>by simp at h,hm,uM,LP⟩ ?_
 rintro a w ⟨D,β,env,seen,c,aS,kG,Ha,Lc,al,ov,LU,hm,uM,LP⟩
 have zO:a.tmps.size=dp:=aS.env.1.trans kG.len
 have RT:a.eval (.tmp t50)=.pointer (some ⟨r,0,none⟩):=by
  have:=aS.rep (.tmp t50)
  rw[show g7 pol env (.tmp t50)=eR (some live) e t50 from kG.get t50]at this
  simp only[eR,OS,D5.1,cQ,D5.2,m0]at this
  exact this.dN.fS.1
 have hold:∀ x∈mes.toList,x.born<clock:=fun x U=>mh.1 _ (nE.2 ⟨x,U,rfl⟩)
 have acX:t51<a.tmps.size:=by rw[zO];exact R.lt.2.2.2.1
 have aCH:t52<(a.put (some t51) (.tuple #[])).tmps.size:=by rw[size_put,zO];exact R.lt.2.2.2.2.1
 have azW:∀(x y:ah),eR (some live) (eW (eW (eR (some live) e) (some t51) x) (some t52) y)=eR (some live) e:=fun x y=>by
  funext t
  simp only[eR,eW,OS]
  by_cases ax:t∈live
  ·have ad:t≠t51:=fun he=>zz.1 (he ▸ ax)
   have ag:t≠t52:=fun he=>zz.2 (he ▸ ax)
   simp only[ax,cQ,ad,ag,et]
  ·simp only[ax,et]
 refine wpIn_seq (wpIn_region_list ?_)
 rcases run_next_at w ee.type r bm clock c seen mes clock al hm hold ov with⟨aoR,dT⟩|⟨hO,mT,cI,uV,dT⟩
 · -- nothing is left
  have hex:(execOp a.eval ee).run P w=.ok (.value (.tuple #[.bool false])) w:=by
   simp only[execOp,R.Af.1,RT,Sem.run_bind,Result.andThen,Sem.run_pure]
   rw[dT]
  refine yj (by rw[R.Af.1];simp) R.Af.2.2 hex ?_
  rw[R.Af.2.1]
  have Hm:(execOp (a.put (some t51) (.tuple #[.bool false])).eval ex).run P w=.ok (.value (.bool false)) w:=by
   simp only[execOp,R.Ag.1,Bf acX,Instr.extract]
   rfl
  refine yj (by rw[R.Ag.1];simp) R.Ag.2.2 Hm ?_
  rw[R.Ag.2.1]
  have DU:=((kG.put (d:=some t51) (by simp[oX];exact R.lt.2.2.2.1) .dead).put (d:=some t52) (by simp[oX];exact R.lt.2.2.2.2.1) (.t (.aA (.bool false)))).tidy (some live)
  rw[azW]at DU
  refine wpIn_seq (wpIn_cond_false (Bf (by rw[size_put,zO];exact R.lt.2.2.2.2.1)) (wpIn_exit ?_))
  exact mR (fun i hi=>by
   have aB:i<mes.size:=by rw[dn];exact hi
   have anN:mes[i]? = some mes[i]:=by simp[aB]
   exact LU i _ anN (all_seen mes seen aoR _ (by simp))) D β w _ _ DU ⟨aS.inv,N7 ((aS.env.put (some t51) (.dead _)).put (some t52) (.t _ _ (.aA _ rfl))),aS.gK,by rw[tS,tS];exact aS.marks,aS.round⟩ LP
 · -- agV entry
  obtain⟨Zp,ox⟩:=mem_left mT
  obtain⟨zu,tC⟩:=aib (m':=some bm) (s':=clock) (seen':=seen.push hO.born) (c':=clock) al uV
  have hex:(execOp a.eval ee).run P w=.ok (.value (.tuple #[.bool true,hO.key,hO.val])) (ChangeMaps.setBlock cI r (.mapIter (some bm) clock (seen.push hO.born) clock)):=by
   simp only[execOp,R.Af.1,RT,Sem.run_bind,Result.andThen,Sem.run_pure]
   rw[dT]
  refine yj (by rw[R.Af.1];simp) R.Af.2.2 hex ?_
  rw[R.Af.2.1]
  generalize ChangeMaps.setBlock cI r (.mapIter (some bm) clock (seen.push hO.born) clock)=dZ at *
  have iF:dZ.heap[bm]? = some (.map mes clock):=(zu.sJ bm (fun he=>by rw[he,al]at hm;cases hm)).trans hm
  obtain⟨i,hi⟩:=Ka Zp
  rw[s8]at hi
  obtain⟨dF,jm⟩:∃ dF,es[i]? = some dF:=⟨es[i]'(by rw[← dn];exact(s6.1 hi).1),by simp⟩
  have mV:bf D β dZ hO.val dF.2:=zu.rep (uM i hO dF hi jm)
  have Hm:(execOp (a.put (some t51) (.tuple #[.bool true,hO.key,hO.val])).eval ex).run P dZ=.ok (.value (.bool true)) dZ:=by
   simp only[execOp,R.Ag.1,Bf acX,Instr.extract]
   rfl
  refine yj (by rw[R.Ag.1];simp) R.Ag.2.2 Hm ?_
  rw[R.Ag.2.1]
  refine wpIn_seq (wpIn_cond_true (Bf (by rw[size_put,zO];exact R.lt.2.2.2.2.1)) (wpIn_skip ?_))
  refine wpIn_block (wpIn_seq (wpIn_region_list ?_))
  have an1:((a.put (some t51) (.tuple #[.bool true,hO.key,hO.val])).put (some t52) (.bool true)).eval (.tmp t50)=.pointer (some ⟨r,0,none⟩):=by
   rw[Ye R.ne.2.1,Ye R.ne.1];exact RT
  have am8:(execOp ((a.put (some t51) (.tuple #[.bool true,hO.key,hO.val])).put (some t52) (.bool true)).eval h0).run P dZ=.ok (.value (.tuple #[hO.key,hO.val])) dZ:=by
   simp only[execOp,R.Nm.1,an1,Sem.run_bind,Result.andThen,Sem.run_pure]
   rw[run_entry_at dZ r bm clock seen mes clock hO tC iF Zp mh.2]
  refine yj (by rw[R.Nm.1];simp) R.Nm.2.2 am8 ?_
  rw[R.Nm.2.1]
  have am9:(execOp (((a.put (some t51) (.tuple #[.bool true,hO.key,hO.val])).put (some t52) (.bool true)).put (some t53) (.tuple #[hO.key,hO.val])).eval aW).run P dZ=.ok (.value hO.val) dZ:=by
   simp only[execOp,R.Nn.1,Bf (show t53<((a.put (some t51) (.tuple #[.bool true,hO.key,hO.val])).put (some t52) (.bool true)).tmps.size by rw[size_put,size_put,zO];exact R.lt.2.2.2.2.2.1),Instr.extract]
   rfl
  refine yj (by rw[R.Nn.1];simp) R.Nn.2.2 am9 ?_
  rw[R.Nn.2.1]
  have ana:(execOp ((((a.put (some t51) (.tuple #[.bool true,hO.key,hO.val])).put (some t52) (.bool true)).put (some t53) (.tuple #[hO.key,hO.val])).put (some t54) hO.val).eval cU).run P dZ=.ok (.value hO.val) dZ:=by
   simp only[execOp,R.No.1,Bf (show t54<(((a.put (some t51) (.tuple #[.bool true,hO.key,hO.val])).put (some t52) (.bool true)).put (some t53) (.tuple #[hO.key,hO.val])).tmps.size by rw[size_put,size_put,size_put,zO];exact R.lt.2.2.2.2.2.2.1),Sem.run_pure]
  refine yj (by rw[R.No.1];simp) R.No.2.2 ana ?_
  rw[R.No.2.1]
  have amF:=((((kG.put (d:=some t51) (by simp[oX];exact R.lt.2.2.2.1) .dead).put (d:=some t52) (by simp[oX];exact R.lt.2.2.2.2.1) (.t (.aA (.bool true)))).put (d:=some t53) (by simp[oX];exact R.lt.2.2.2.2.2.1) .dead).put (d:=some t54) (by simp[oX];exact R.lt.2.2.2.2.2.2.1) dF.2).put (d:=some t9) (by simp[oX];exact R.lt.2.2.2.2.2.2.2) dF.2
  have ant:Inv Z D β ad dZ:=aS.inv.xe zu Ha bG
  have am6:g3 D β dZ a.tmps env:=⟨aS.env.1,fun i v x az U=>zu.rep (aS.env.2 i v x az U)⟩
  have k3:Ext Dz βz wz D β dZ:=LP.xe zu al8
  refine wy fq dD bK h3 amF (sl i dF jm) ck ⟨ant,((((am6.put (some t51) (.dead _)).put (some t52) (.t _ _ (.aA _ rfl))).put (some t53) (.dead _)).put (some t54) mV).put (some t9) mV,aS.gK.xe zu,by simp only[tS];exact aS.marks.xe zu,fun l ao=>by cases ao⟩ (kP aml k3.size)
   fun x bs ai bz a5 a4 w' cb aBN bk tp U n9 mB=>?_
  rcases bk with⟨rfl,aoa,rfl,aoy⟩|⟨rfl,amo⟩
  ·cases U
   have Y4:=tp.tidy (some live)
   rw[show eR (some live) bs=eR (some live) e from funext aoy]at Y4
   have Ef:=(mB.same r Ha).trans tC
   refine⟨⟨a5,a4,tidy (some live) bz,seen.push hO.born,clock,n9.tidy,Y4,mB.sub _ Ha,mB.sub _ Lc,Ef,bP _,?_,(mB.same bm Lc).trans iF,fun i m dF hm jm=>(zu.rep (uM i m dF hm jm)).mono mB,k3.trans mB⟩,?_⟩
   ·intro j m ZM Z7
    by_cases ZE:seen.contains m.born=true
    ·exact LU j m ZM ZE
    ·have DW:m.born=hO.born:=by
      simp only[Array.contains_push,uy]at Z7
      rcases Z7 with h|h
      ·exact absurd h ZE
      ·simpa using h
     have gY:i=j:=by
      have aT:(mes.toList.map (·.born))[i]? = some hO.born:=by rw[eE,s8,hi];rfl
      have aW:(mes.toList.map (·.born))[j]? = some hO.born:=by rw[eE,s8,ZM,← DW];rfl
      obtain⟨cx,a3⟩:=cD.1 aT
      obtain⟨gQ,a7⟩:=cD.1 aW
      have km:=mh.2
      rw[WU,OP]at km
      rcases Nat.lt_trichotomy i j with aY|aY|aY
      ·exact absurd (a3.trans a7.symm) (km i j cx gQ aY)
      ·exact aY
      ·exact absurd (a7.trans a3.symm) (km j i gQ cx aY)
     subst gY
     exact aoa
   ·simp only[Ef,al]
    exact left_shrinks mes seen hO mT
  ·cases U
   exact R2 bs ai a5 a4 w' cb bz amo tp n9 (k3.trans mB)
theorem awa[cf]{ok:List (Nat × Nat)→Array Oper→Bool}(fq:∀ f c,cf.ok f c↔codeOk pol ok f c=true)(dD:l2 P pol K)(bK:j9 P pol I)(h3:sT P pol K I ok)
  {e9 rg ee ex h0 aW cU:Oper} {mt:TypeId} {t5 t49 t50 t51 t52 t53 t54 t9:Tmp} (R:OJ e9 rg ee ex h0 aW cU mt t5 t49 t50 t51 t52 t53 t54 t9 dp) {x6 i11 i12 db eG:Nat} {body:Code} (ck:codeOk pol ok f body=true)
  {fG DF:TypeId} (Lx:P.underlying mt=some (.map fG DF)) {e:aM} {es:List (Value × ah)} {m:Nat} (dC:e t5=.mp m) (hm:h[m]? = some (.map es)) (ay:tl h (fun o=>[m].contains o) 0 h=some ad)
  {live:List Tmp} (D5:t50∈live) (zz:t51 ∉ live∧t52 ∉ live∧t49 ∉ live) {Φ:Nat→Prop} {RR:aM→aj→Prop} {Q:Exit→Act→World→Prop} {D:c8} {β:dt} {w:World} {a:Act} {env:Env}
  (sl:∀(r i:Nat) dF,es[i]? = some dF→iO P pol K I n f (eS P pol f dp eG body) (fun x bs ai=>(x=.normal∧Φ i∧ai=ad∧∀ t,eR (some live) bs t=eR (some live) (eW (kV h (fun o=>[m].contains o) e) (some t50) (m0 r)) t)∨(x=.ret∧RR bs ai)) (NF (eR (some live) (eW (kV h (fun o=>[m].contains o) e) (some t50) (m0 r))) t51 t52 t53 t54 t9 dF.2) ad)
  (aS:St pol Z M D β h w none a env) (kG:fI dp e env) (hK:M.1≤w.heap.size)
  (mR:(∀ i,i<es.length→Φ i)→∀ r a5 a4 w' cb bz,fI dp (eR (some live) (eW (kV h (fun o=>[m].contains o) e) (some t50) (m0 r))) bz→St pol Z M a5 a4 ad w' none cb bz→Ext D β w a5 a4 w'→Q .normal cb w')
  (R2:∀ bs ai a5 a4 w' cb bz,RR bs ai→fI dp bs bz→St pol Z M a5 a4 ai w' none cb bz→Ext D β w a5 a4 w'→Q .ret cb w') :
  (Code.seq (.region x6 #[e9,rg] false) (.block db (.loop (.seq (.region i11 #[ee,ex] false) (.seq (.cond (.tmp t52) .skip (.exit db)) (.block eG (.seq (.region i12 #[h0,aW,cU] false) body))))))).wpIn (fu none) 0 P Q a w:=by
 have zO:a.tmps.size=dp:=aS.env.1.trans kG.len
 have R1:=aS.rep (.tmp t5)
 rw[show g7 pol env (.tmp t5)=e t5 from kG.get t5,dC]at R1
 obtain⟨bm,k,ab,aoD⟩:∃ bm k,β m 0=some (bm,k)∧a.eval (.tmp t5)=.map (some bm):=by
  generalize a.eval (.tmp t5)=v at R1
  cases R1 with
  | mp _ b k ab=>exact⟨b,k,ab,rfl⟩
 obtain⟨_,_,mes,clock,Ru,dn,mh,uM⟩:=aS.inv.obj m _ hm 0 bm k ab
 have am7:(execOp a.eval e9).run P w=.ok (.value (.map (some bm))) w:=by
  simp only[execOp,R.hB.1,aoD,Sem.run_pure]
 refine wpIn_seq (wpIn_region_list (yj (by rw[R.hB.1];simp) R.hB.2.2 am7 ?_))
 rw[R.hB.2.1]
 have Hm:(execOp (a.put (some t49) (.map (some bm))).eval rg).run P w=.ok (.value (.pointer (some ⟨w.heap.size,0,none⟩))) (w.alloc (.mapIter (some bm) clock #[] clock)):=by
  simp only[execOp,R.h7.1,Bf (show t49<a.tmps.size by rw[zO];exact R.lt.2.1),Sem.run_bind,Result.andThen,Sem.run_pure]
  rw[run_range_map w mt fG DF bm mes clock Lx Ru]
 refine yj (by rw[R.h7.1];simp) R.h7.2.2 Hm ?_
 rw[R.h7.2.1]
 have f0:hd (fun _=>False) D β w D β (w.alloc (.mapIter (some bm) clock #[] clock)):=Bi aS.inv.g _
 have i0:Inv Z D β h (w.alloc (.mapIter (some bm) clock #[] clock)):=aS.inv.step (aS.inv.g.alloc _ (by simp)) f0 (fun _ _=>rfl) (fun _ _ h=>h.elim) (bP _) (fun _ _ _ h=>h.elim)
 have mU:(w.alloc (.mapIter (some bm) clock #[] clock)).heap[w.heap.size]? = some (.mapIter (some bm) clock #[] clock):=heap_alloc_new _
 have ann:(w.alloc (.mapIter (some bm) clock #[] clock)).heap[bm]? = some (.map mes clock):=(heap_alloc_old (lU Ru)).trans Ru
 obtain⟨i1,aj2⟩:=alN ay i0
 have aoW:∀ o e k,β o e≠some (w.heap.size,k):=fun o e k ab=>by have:=(aS.inv.g.blt _ _ _ _ ab).2;omega
 obtain⟨i2,fo⟩:=arG i1 (lU mU) aS.inv.g.jS aoW (fun ds aF=>by rw[mU]at aF;cases aF)
 have JK:Ext D β w (iy D β (fun o=>[m].contains o)) β (w.alloc (.mapIter (some bm) clock #[] clock)):={ f0.ext with sub:=fun b ab=>.inl ab }
 have Ol:=JK.trans fo
 have mf:=((kG.dV h (fun o=>[m].contains o)).put (d:=some t49) (by simp[oX];exact R.lt.2.1) .dead).put (d:=some t50) (by simp[oX];exact R.lt.2.2.1) (m0 w.heap.size)
 have Y6:=mf.tidy (some live)
 rw[show eR (some live) (eW (eW (kV h (fun o=>[m].contains o) e) (some t49) .dead) (some t50) (m0 w.heap.size))=eR (some live) (eW (kV h (fun o=>[m].contains o) e) (some t50) (m0 w.heap.size)) by
  funext t
  simp only[eR,eW,OS]
  by_cases ax:t∈live
  ·have ad:t≠t49:=fun he=>zz.2.2 (he ▸ ax)
   simp only[ax,cQ,ad,et]
  ·simp only[ax,et]]at Y6
 have rb:g3 (qb (iy D β (fun o=>[m].contains o)) w.heap.size) β (w.alloc (.mapIter (some bm) clock #[] clock)) ((a.put (some t49) (.map (some bm))).put (some t50) (.pointer (some ⟨w.heap.size,0,none⟩))).tmps
   (Go.Abs.put (Go.Abs.put (uJ h (fun o=>[m].contains o) env) (some t49) .dead) (some t50) (m0 w.heap.size)) :=
  (((aj2 _ _ (aS.env.mono f0.ext)).mono fo).put (some t49) (.dead _)).put (some t50) (.t _ _ (.aA _ rfl))
 refine wpIn_block ?_
 refine av9 fq dD bK h3 R ck (Q:=Exit.inBlock db Q) (e:=eW (kV h (fun o=>[m].contains o) e) (some t50) (m0 w.heap.size)) (es:=es) (r:=w.heap.size) (bm:=bm) (since:=clock) (mes:=mes) (clock:=clock) (live:=live) (Φ:=Φ) (RR:=RR) (Dz:=D) (βz:=β) (wz:=w) dn mh rfl (fun aF=>by have:=aS.inv.g.hV _ aF;omega) hK
  (sl w.heap.size) ⟨D5,by simp[eW]⟩ ⟨zz.1,zz.2.1⟩ (fun hC a5 a4 w' cb bz a3 a7 cz=>?_) (fun bs ai a5 a4 w' cb bz a3 a7 cz eJ=>R2 bs ai a5 a4 w' cb bz a3 a7 cz eJ)
  (D:=qb (iy D β (fun o=>[m].contains o)) w.heap.size) (β:=β) (env:=tidy (some live) (Go.Abs.put (Go.Abs.put (uJ h (fun o=>[m].contains o) env) (some t49) .dead) (some t50) (m0 w.heap.size)))
  aS.inv.g.jS ⟨i2,N7 rb,aS.gK.mono Ol,by rw[tS,tS];exact aS.marks.mono Ol,fun l ao=>by cases ao⟩ Y6 (.inr rfl) (.inl (.inr ⟨m,0,k,by simp,ab⟩)) mU ann (fun i I3 dF zI jm=>((uM i I3 dF zI jm).2).mono Ol) Ol
 simp only[Exit.inBlock,cQ]
 exact mR hC _ a5 a4 w' cb bz a3 a7 cz
end Go.Abs
