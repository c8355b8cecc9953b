/- Part 18 of the proof of TopSchedule. -/
import Derived.Test.YtogagakgmbkonaaGreatS17
import Derived.RecoverIn
set_option linter.all false
set_option maxRecDepth 100000
set_option maxHeartbeats 4000000
namespace Go.Abs
open Go
variable{P:Program}{pol:c4}{K:eZ}{I:eY}{Z:hG}{D a5 D2:c8}{β a4 β2:dt}{w w' w0:World}{h ai:aj}{ro:Option Nat}{M:sX}{f:FuncId}{n dp:Nat}
theorem wy[cf]{ok:List (Nat × Nat)→Array Oper→Bool}(fq:∀ f c,cf.ok f c↔codeOk pol ok f c=true)(dD:l2 P pol K)(bK:j9 P pol I)(h3:sT P pol K I ok){c:Code}{dd:Nat}{R:cW→aM→aj→Prop}{e:aM}{env:Env}{a:Act}
  {Q:Exit→Act→World→Prop} (kG:fI dp e env) (hw:iO P pol K I n f (eS P pol f dp dd c) R e h) (ck:codeOk pol ok f c=true) (aS:St pol Z M D β h w ro a env) (hK:M.1≤w.heap.size)
  (aw:∀ x bs ai bz a5 a4 w' cb ex,R x bs ai→fI dp bs bz→x.is ex→St pol Z M a5 a4 ai w' ro cb bz→Ext D β w a5 a4 w'→Q ex cb w'):c.wpIn (fu ro) 0 P Q a w:=by
 obtain⟨x,bz,ai,bs,b9,b3,cG⟩:=Oj c kG hw
 exact GI fq dD bK h3 c b9 ck aS hK fun a5 a4 w' cb ex he st U=>aw _ _ _ _ _ _ _ _ _ cG b3 he st U
theorem M7[cf]{fn:Func}{env:Env}{tmps:Array Value}{R:Ending→World→Prop}{tail:List Deferred}{u:FrameMode}(hu:u≠.run)(Hh:Z.N≤w0.heap.size){N:Nat}(bG:w0.heap.size≤N)(Φ:World→Prop)(LU:∀ w r,N≤r→Φ w→Φ (w.putObj r (.deferred none)))
  (bk:∀ w',Φ w'→Inv Z D β h w'→hH pol D w'→Ext D2 β2 w0 D β w'→g3 D β w' tmps env→LeavesInM (fu none) 0 P fn tmps R tail u w') :
  ∀(rs:List Nat) (w:World),rs.Nodup→(∀ r∈rs,N≤r∧w.heap[r]? = some (.deferred (some [])))→Φ w→Inv Z D β h w→hH pol D w→Ext D2 β2 w0 D β w→g3 D β w tmps env →
   LeavesInM (fu none) 0 P fn tmps R (rs.map (fun r=>{ target:=.collected r,args:=#[] })++tail) u w:=by
 intro rs
 induction rs with
 | nil=>intro w _ _ av hi ay U he;exact bk w av hi ay U he
 | cons r rs au =>
  intro w aW bw av hi ay U he
  obtain⟨ZJ,al⟩:=bw r (by simp)
  have lO:=kP bG ZJ
  have bG:Z.N≤r:=kP Hh lO
  obtain⟨i1,dW,b9⟩:=V4 hi al bG U lO
  have km:=AS.1 aW
  refine⟨hu,.inl ⟨r,_,rfl,run_takeDeferred al,au _ km.2 (fun q aE=>⟨(bw q (by simp[aE])).1,(World.putObj_heap_other (k:=q) (r:=r) (fun e=>km.1 (by subst e;exact aE))).trans (bw q (by simp[aE])).2⟩) (LU _ _ ZJ av) i1 ⟨fun g x uO=>?_,fun g aq uO=>?_⟩ dW ⟨he.1,fun i v x az x1=>b9 _ _ (he.2 i v x az x1)⟩⟩⟩
  ·have:=b9 (.t x) _ (.t _ _ (ay.rep g x uO))
   exact this.dN
  ·obtain⟨aF,cs,ty,bQ,af,aw⟩:=ay.row g aq uO
   have eo:g≠r:=fun e=>(hi.g.eU r _ al bG).1 (e ▸ aF)
   exact⟨aF,cs,ty,bQ,(World.putObj_heap_other eo).trans af,aw⟩
theorem ajH{id:Nat}{hB h7:Oper}{g:FuncId}{caps:List Operand}{d1:Tmp}{iR:Call}{a:Act}{Q:Exit→Act→World→Prop}
  (ad:hB.op=.makeFunc (.func g) #[] caps.toArray) (jL:hB.dst=some d1) (uN:hB.guard=none) (ag:h7.op=.defer iR) (dx:iR.callee=.value (.tmp d1)) (xD:iR.args = #[]) (qg:h7.dst=none) (tv:h7.guard=none)
  (aB:d1<a.tmps.size) (aw:Q .normal { a.put (some d1) (.func (.func g) #[] (caps.map a.eval).toArray)with defers:={ target:=.fn (.func g) (caps.map a.eval).toArray,args:=#[] }::a.defers } w) :
  (Code.region id #[hB,h7] false).wpIn (fu none) 0 P Q a w:=by
 refine wpIn_region_list ?_
 have cI:∀ lZ,Region.wanted hB (yielded #[hB,h7] lZ)=true:=fun lZ=>by unfold Region.wanted;rw[uN]
 have dZ:∀ lZ,Region.wanted h7 (yielded #[hB,h7] lZ)=true:=fun lZ=>by unfold Region.wanted;rw[tv]
 have aT:(execOp a.eval hB).run P w=.ok (.value (.func (.func g) #[] (caps.map a.eval).toArray)) w:=by
  simp only[execOp,ad,Instr.makeFunc,Sem.run_bind,Sem.run_pure,Result.andThen]
  simp
 simp only[wpListIn,cI,cQ]
 refine⟨fun _ _=>trivial,?_⟩
 rw[Oper.semAt_eq _ _ _ (by rw[ad];simp),aT,Oper.uponIn_value,jL]
 simp only[dZ,cQ]
 refine⟨fun _ _=>trivial,?_⟩
 have xG:(a.put (some d1) (.func (.func g) #[] (caps.map a.eval).toArray)).eval (.tmp d1)=.func (.func g) #[] (caps.map a.eval).toArray:=by
  simp[Act.eval,Act.put,r6,yZ,aB]
 have aW:(execOp (a.put (some d1) (.func (.func g) #[] (caps.map a.eval).toArray)).eval h7).run P w=.ok (.defer { target:=.fn (.func g) (caps.map a.eval).toArray,args:=#[] }) w:=by
  simp only[execOp,ag,resolve,dx,xD,xG,Deferred.ofValue,Sem.run_bind,Sem.run_pure,Result.andThen]
  simp
 show Oper.uponIn _ _ _ _ _ _ _ ((h7.semAt none _).run P w)
 rw[Oper.semAt_none,aW,Oper.uponIn_defer,qg]
 exact aw
def u4:Code→Bool
 | .skip=>true
 | .seq a b=>u4 a && u4 b
 | .cond _ a b=>u4 a && u4 b
 | .region _ _ d=>!d
 | _=>false
def wo:eZ:=fun _ _=>none
def wm:eY:=fun _ _ _=>none
structure C1[cf](pol:c4)(Z:hG)(D:c8)(β:dt)(h:aj)(w:World)(a:Act)(env:Env):Prop where
 inv:Inv Z D β h w
 env:g3 D β w a.tmps env
 gK:hH pol D w
theorem auG[cf]{ops:Array Oper}{cs:List Frame}{ds:List Deferred}{Q:Exit→Act→List Frame→World→Prop}(fm:∀ t,pol.dV f t=false):∀(rest:List Oper) (k:Nat) {D:c8} {β:dt} {h:aj} {w:World} {env bz:Env} {a:Act},(∀ j,rest[j]? = ops[k+j]?)→kc P pol wo wm f ops.toList rest env h=some (bz,ai) →
  C1 pol Z D β h w a env→a.defers=ds→(∀ a5 a4 w' cb,C1 pol Z a5 a4 ai w' cb bz→cb.defers=ds→Ext D β w a5 a4 w'→Q .normal cb cs w')→wpOpsSIn (fu none) 0 P ops Q (List.range' k rest.length) a cs w:=by
 intro rest
 induction rest with
 | nil =>
  intro k D β h w env bz a _ J aS aF aw
  simp[kc]at J
  obtain⟨rfl,rfl⟩:=J
  exact aw D β w a aS aF (.refl D β w)
 | cons o rest au =>
  intro k D β h w env bz a an J aS aF aw
  have bo:ops[k]? = some o:=by simpa using(an 0).symm
  have h4:∀ j,rest[j]? = ops[k+1+j]?:=fun j=>by have:=an (j+1);simpa[uq,Gh 1 j]using this
  simp only[kc]at J
  split at J
  ·rename_i b ab
   have hw:=DN rfl ab aS.env
   simp only[jc,vA,wpOpsSIn,bo,hw]
   refine⟨fun _ _=>trivial,?_⟩
   cases b with
   | true =>
    simp only[cQ]at J ⊢
    split at J
    ·rename_i eg ad mn
     unfold nI at mn
     rw[fm]at mn
     simp only[fJ,et]at mn
     have plain:∀ r v,bj P pol f (g7 pol env) h o=some r→nt r=some (v,ad)→eg=put env o.dst v →
       ∃ ee cI jV β1,(execOp a.eval o).run P w=.ok ee cI∧(ee=.skip∨∃ bU,ee=.value bU)∧Ext D β w jV β1 cI∧C1 pol Z jV β1 ad cI (a.put o.dst (match ee with|.value bU=>bU|_=>undef)) eg:=by
      intro r v ae az he
      subst he
      obtain⟨am1,uT,ao⟩:=(Vf (ρr:=a.eval) ae az aS.inv.g (GR aS.env aS.gK) (fun o e ad _=>aS.inv.fresh o e ad) (fun cC y _ ar=>aS.inv.obj cC y ar)).parts
      obtain⟨ee,cI,jV,β1,al,hm,aI,ay,mi,ts⟩:=am1
      refine⟨ee,cI,jV,β1,al,?_,aI.ext,aS.inv.done aI ay mi ts uT ao,?_,aS.gK.mono aI.ext⟩
      ·cases ee with
       | value bU=>exact .inr ⟨bU,rfl⟩
       | skip=>exact .inl rfl
       | _=>exact hm.elim
      ·cases ee with
       | value bU=>exact(aS.env.mono aI.ext).put o.dst hm
       | skip =>
        have hm:v=.t (.aA undef):=hm
        rw[hm];exact(aS.env.mono aI.ext).put o.dst FI
       | _=>exact hm.elim
     have key:∃ ee cI jV β1,(execOp a.eval o).run P w=.ok ee cI∧(ee=.skip∨∃ bU,ee=.value bU)∧Ext D β w jV β1 cI∧C1 pol Z jV β1 ad cI (a.put o.dst (match ee with|.value bU=>bU|_=>undef)) eg:=by
      unfold lK at mn
      split at mn
      ·rename_i v ag ae
       simp at mn
       obtain⟨rfl,rfl⟩:=mn
       exact plain _ v ae rfl rfl
      ·rename_i ag ae
       simp at mn
       obtain⟨rfl,rfl⟩:=mn
       exact plain _ _ ae rfl rfl
      ·rename_i g args ae
       have fg:iw pol wo wm f (o.dst.getD 0) g args h=none:=by
        unfold iw
        cases g with
        | bF l=>rfl
        | fn g =>
         simp only[wm,wo,alive,pr,vI,vJ]
         split
         ·split<;>rfl
         ·split
          ·split<;>rfl
          ·split
           ·split<;>rfl
           ·split<;>rfl
       rw[fg]at mn
       cases mn
      ·cases mn
     obtain⟨ee,cI,jV,β1,al,D7,U,hD⟩:=key
     have jL:∀ v,(a.put o.dst v).defers=ds:=fun v=>by rw[tS];exact aF
     rcases D7 with rfl|⟨bU,rfl⟩
     ·rw[al]
      exact au (k+1) h4 J hD (jL _) fun ny oe m6 r7 m3 d2 fo=>aw ny oe m6 r7 m3 d2 (U.trans fo)
     ·rw[al]
      exact au (k+1) h4 J hD (jL _) fun ny oe m6 r7 m3 d2 fo=>aw ny oe m6 r7 m3 d2 (U.trans fo)
    ·cases J
   | false =>
    simp only[fJ,et]at J ⊢
    exact au (k+1) h4 J ⟨aS.inv,aS.env.put o.dst FI,aS.gK⟩ (by rw[tS];exact aF) aw
  ·cases J
theorem ajh[cf]{cs:List Frame}{ds:List Deferred}(fm:∀ t,pol.dV f t=false)(o4:pol.lq f=false):∀(c:Code) {dd:Nat} {D:c8} {β:dt} {h ai:aj} {w:World} {env bz:Env} {a:Act} {Q:Exit→Act→List Frame→World→Prop},u4 c=true→du P pol wo wm n f dd c env h=some (.normal,bz,ai) →
  C1 pol Z D β h w a env→a.defers=ds→(∀ a5 a4 w' cb,C1 pol Z a5 a4 ai w' cb bz→cb.defers=ds→Ext D β w a5 a4 w'→Q .normal cb cs w')→c.wpSIn (fu none) 0 P Q a cs w:=by
 intro c
 induction c with
 | skip =>
  intro dd D β h ai w env bz a Q _ J aS aF aw
  simp[du]at J
  obtain⟨rfl,rfl⟩:=J
  exact wpSIn_of_wpIn rfl (wpIn_skip (aw D β w a aS aF (.refl D β w)))
 | seq p q zX BU =>
  intro dd D β h ai w env bz a Q af J aS aF aw
  simp[u4]at af
  simp only[du]at J
  split at J
  ·rename_i eg ad G7
   refine wpSIn_seq (zX af.1 G7 aS aF fun a5 a4 w' cb hD d1 dW=>?_)
   exact BU af.2 J hD d1 fun ny oe m6 r7 m3 d2 fo=>aw ny oe m6 r7 m3 d2 (dW.trans fo)
  ·rename_i al
   exact absurd J (al _ _)
 | cond c p q zX BU =>
  intro dd D β h ai w env bz a Q af J aS aF aw
  simp[u4]at af
  simp only[du]at J
  split at J
  ·rename_i t ax
   have al:=GR aS.env aS.gK c
   rw[ax]at al
   refine wpSIn_cond al.dN.fS.1 ?_
   cases t with
   | true=>simp at J ⊢;exact zX af.1 J aS aF aw
   | false=>simp at J ⊢;exact BU af.2 J aS aF aw
  ·simp at J
 | region id ops vE =>
  intro dd D β h ai w env bz a Q af J aS aF aw
  cases vE with
  | true=>simp[u4]at af
  | false =>
   simp only[du,o4]at J
   split at J
   ·rename_i eg ad aC
    simp at J
    obtain⟨rfl,rfl⟩:=J
    refine wpSIn_region ?_
    rw[sZ,← JW]
    exact auG fm ops.toList 0 (fun j=>by simp) aC aS aF aw
   ·simp at J
 | _=>intro dd D β h ai w env bz a Q af;simp[u4]at af
end Go.Abs
