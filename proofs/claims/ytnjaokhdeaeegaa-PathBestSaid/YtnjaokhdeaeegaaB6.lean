/- Part 6 of the proof of PathBest. -/
import Derived.Test.YtnjaokhdeaeegaaB5
set_option linter.all false
set_option maxRecDepth 100000
set_option maxHeartbeats 4000000
namespace Go.Abs
open Go
variable {P:Program} {pol:Pol} {K:Oracle} {I:Inl} {f:FuncId} {n m:Nat} {e:FEnv} {h:Heap} {d:Option Tmp} {tk:TK} {op:IOp} {r:List I1} {Q:FEnv→Heap→Prop}
def oB (x:Option (AV × Heap)) (k:AV→Heap→Prop):Prop:=match x with|some (v,h)=>k v h|none=>False
def hB (x:Option (FEnv × Heap)) (k:FEnv→Heap→Prop):Prop:=match x with|some (v,h)=>k v h|none=>False
def vB (x:Option (List AV)) (k:List AV→Prop):Prop:=match x with|some v=>k v|none=>False
theorem qao (v:AV) (h:Heap) (k:AV→Heap→Prop):oB (some (v,h)) k=k v h:=(fun x=>x) rfl
theorem qap (v:FEnv) (h:Heap) (k:FEnv→Heap→Prop):hB (some (v,h)) k=k v h:=(fun x=>x) rfl
theorem qaq (v:List AV) (k:List AV→Prop):vB (some v) k=k v:=(fun x=>x) rfl
theorem get_v (t:Nat):Src.get e (.v t)=e t:=(fun x=>x) rfl
theorem get_c (x:T):Src.get e (.c x)=.t x:=(fun x=>x) rfl
theorem qar (t:Nat) (v:AV) (s:Nat):upd e (some t) v s=if s=t then v else e s:=(fun x=>x) rfl
theorem qas (v:AV):upd e none v=e:=(fun x=>x) rfl
theorem qat (t:Nat):envOf [] t=.dead:=by simp [envOf]
theorem qau (x:AV) (l:List AV):envOf (x::l) 0=x:=(fun x=>x) rfl
theorem qav (x:AV) (l:List AV) (t:Nat):envOf (x::l) (t+1)=envOf l t:=by simp [envOf]
inductive Md where
 | p
 | d
 | t (crit:List (Nat × Nat)) (acc:List (Option (List Nat)))
def Md.fits:Md→Heap→Heap→Prop
 | .p,_,_=>True
 | _,h,h'=>h.length≤h'.length
def Md.nx (pol:Pol) (f:FuncId) (d:Option Tmp) (tk:TK) (e:FEnv) (h h':Heap):Md→Md
 | .t crit acc=>.t crit (touchN (tkOf pol f d e tk) h h'::acc)
 | m=>m
def Md.sk:Md→Md
 | .t crit acc=>.t crit (some []::acc)
 | m=>m
def Md.fin:Md→Prop
 | .t crit acc=>critOk crit acc.reverse=true
 | _=>True
def wo (P:Program) (pol:Pol) (K:Oracle) (I:Inl) (f:FuncId):Md→List I1→(FEnv→Heap→Prop)→FEnv→Heap→Prop
 | L,[],Q,e,h=>L.fin∧Q e h
 | L,i::r,Q,e,h =>
  match gOk e i.g with
  | some true=>match i.fz with
   | none=>match resStep pol K I f i.dst h (iStep P pol f e h i.op) with
    | some (v,h')=>L.fits h h'∧wo P pol K I f (L.nx pol f i.dst i.tk e h h') r Q (upd e i.dst v) h'
    | none=>False
   | some os=>L=.p∧match freezeF (reach h 20 (namesAll (srcs e os))) e h with
    | some (e1,h1)=>match resStep pol K I f i.dst h1 (iStep P pol f e1 h1 i.op) with
     | some (v,h')=>wo P pol K I f L r Q (upd e1 i.dst v) h'
     | none=>False
    | none=>False
  | some false=>wo P pol K I f L.sk r Q (upd e i.dst (.t (.sc undef))) h
  | none=>False
theorem wo_eq:∀ (l:List I1) {Q:FEnv→Heap→Prop} {e:FEnv} {h:Heap},wo P pol K I f .p l Q e h=Go.Abs.wpOps P pol K I f l Q e h:=by
 intro l
 induction l with
 | nil=>intro Q e h; simp only [wo,Md.fin,true_and]; rfl
 | cons i r ih =>
  intro Q e h
  simp only [wo,Go.Abs.wpOps,Md.fits,Md.nx,Md.sk,ih,true_and]
  rfl
theorem qaw:∀ (l:List I1) {Q:FEnv→Heap→Prop} {X:FEnv→Heap→List (Option (List Nat))→Prop} {e:FEnv} {h:Heap},(∀ e h ts,Q e h→X e h ts)→wo P pol K I f .d l Q e h→wpOpsD P pol K I f l X e h:=by
 intro l
 induction l with
 | nil=>intro Q X e h hq hw; exact hq _ _ _ hw.2
 | cons i r ih =>
  intro Q X e h hq hw
  simp only [wo] at hw
  simp only [wpOpsD]
  split at hw
  ·rename_i hg
   simp only [hg]
   split at hw
   ·split at hw
    ·rename_i v h' hr
     simp only [hr]
     have:h.length≤h'.length:=hw.1
     rw [if_neg (by omega)]
     exact ih (fun e h ts hh=>hq _ _ _ hh) hw.2
    ·exact hw.elim
   ·exact absurd hw.1 (by simp)
  ·rename_i hg
   simp only [hg]
   exact ih (fun e h ts hh=>hq _ _ _ hh) hw
  ·exact hw.elim
theorem qax {crit:List (Nat × Nat)}:∀ (l:List I1) {acc:List (Option (List Nat))} {Q:FEnv→Heap→Prop} {X:FEnv→Heap→List (Option (List Nat))→Prop} {e:FEnv} {h:Heap},(∀ e h ts,critOk crit (acc.reverse++ts)=true→Q e h→X e h ts) →
  wo P pol K I f (.t crit acc) l Q e h→wpOpsD P pol K I f l X e h:=by
 intro l
 induction l with
 | nil=>intro acc Q X e h hq hw; exact hq _ _ _ (by have:critOk crit acc.reverse=true:=hw.1; simpa using this) hw.2
 | cons i r ih =>
  intro acc Q X e h hq hw
  simp only [wo] at hw
  simp only [wpOpsD]
  split at hw
  ·rename_i hg
   simp only [hg]
   split at hw
   ·split at hw
    ·rename_i v h' hr
     simp only [hr]
     have:h.length≤h'.length:=hw.1
     rw [if_neg (by omega)]
     exact ih (fun e h ts hc hh=>hq _ _ _ (by simpa using hc) hh) hw.2
    ·exact hw.elim
   ·exact absurd hw.1 (by simp)
  ·rename_i hg
   simp only [hg]
   exact ih (fun e h ts hc hh=>hq _ _ _ (by simpa using hc) hh) hw
  ·exact hw.elim
def opsK (P:Program) (pol:Pol) (K:Oracle) (I:Inl) (f:FuncId) (L:Md) (d:Option Tmp) (tk:TK) (r:List I1) (Q:FEnv→Heap→Prop) (e:FEnv) (h:Heap) (v:AV) (h':Heap):Prop :=
 L.fits h h'∧wo P pol K I f (L.nx pol f d tk e h h') r Q (upd e d v) h'
def fzK (P:Program) (pol:Pol) (K:Oracle) (I:Inl) (f:FuncId) (d:Option Tmp) (tk:TK) (op:IOp) (r:List I1) (Q:FEnv→Heap→Prop) (e1:FEnv) (h1:Heap):Prop :=
 oB (resStep pol K I f d h1 (iStep P pol f e1 h1 op)) (opsK P pol K I f .p d tk r Q e1 h1)
def brG (c:Bool) (P:Program) (pol:Pol) (K:Oracle) (I:Inl) (f:FuncId) (L:Md) (d:Option Tmp) (tk:TK) (op:IOp) (r:List I1) (Q:FEnv→Heap→Prop) (e:FEnv) (h:Heap):Prop :=
 if c then oB (resStep pol K I f d h (iStep P pol f e h op)) (opsK P pol K I f L d tk r Q e h) else wo P pol K I f L.sk r Q (upd e d (.t (.sc undef))) h
def gB (v:AV) (w:Bool) (P:Program) (pol:Pol) (K:Oracle) (I:Inl) (f:FuncId) (L:Md) (d:Option Tmp) (tk:TK) (op:IOp) (r:List I1) (Q:FEnv→Heap→Prop) (e:FEnv) (h:Heap):Prop :=
 match v with
 | .t (.sc (.bool b))=>brG (b == w) P pol K I f L d tk op r Q e h
 | .t (.sc _)=>brG false P pol K I f L d tk op r Q e h
 | _=>False
theorem qay:wo P pol K I f .p [] Q e h=Q e h:=by simp [wo,Md.fin]
theorem qaz:wo P pol K I f .d [] Q e h=Q e h:=by simp [wo,Md.fin]
theorem qaA {crit:List (Nat × Nat)} {acc:List (Option (List Nat))}:wo P pol K I f (.t crit acc) [] Q e h=(critOk crit acc.reverse=true∧Q e h):=by simp [wo,Md.fin]
theorem qaB {L:Md}:wo P pol K I f L (⟨d,none,none,tk,op⟩::r) Q e h=oB (resStep pol K I f d h (iStep P pol f e h op)) (opsK P pol K I f L d tk r Q e h):=by
 simp only [wo,gOk,oB,opsK]
theorem qaC {L:Md} {t:Nat} {w:Bool}:wo P pol K I f L (⟨d,some (t,w),none,tk,op⟩::r) Q e h=gB (e t) w P pol K I f L d tk op r Q e h:=by
 simp only [wo,gOk,gB,brG]
 cases e t with
 | t x=>cases x with
  | sc v=>cases v with
   | bool b=>cases b <;> cases w <;> simp [oB,opsK]
   | _=>rfl
  | _=>rfl
 | _=>rfl
theorem qaD {os:List Src}:wo P pol K I f .p (⟨d,none,some os,tk,op⟩::r) Q e h=hB (freezeF (reach h 20 (namesAll (srcs e os))) e h) (fzK P pol K I f d tk op r Q):=by
 simp only [wo,gOk,hB,oB,fzK,opsK,Md.fits,Md.nx,true_and]
 first|done|(split <;> first|rfl|(split <;> simp_all))
theorem qaE {v:AV} {h':Heap}:opsK P pol K I f .p d tk r Q e h v h'=wo P pol K I f .p r Q (upd e d v) h':=by simp [opsK,Md.fits,Md.nx]
theorem qaF {v:AV} {h':Heap}:opsK P pol K I f .d d tk r Q e h v h'=(h.length≤h'.length∧wo P pol K I f .d r Q (upd e d v) h'):=by simp [opsK,Md.fits,Md.nx]
theorem qaG {crit:List (Nat × Nat)} {acc:List (Option (List Nat))} {v:AV} {h':Heap}:opsK P pol K I f (.t crit acc) d tk r Q e h v h' =
  (h.length≤h'.length∧wo P pol K I f (.t crit (touchN (tkOf pol f d e tk) h h'::acc)) r Q (upd e d v) h'):=by simp [opsK,Md.fits,Md.nx]
theorem qaH {e1:FEnv} {h1:Heap}:fzK P pol K I f d tk op r Q e1 h1=oB (resStep pol K I f d h1 (iStep P pol f e1 h1 op)) (opsK P pol K I f .p d tk r Q e1 h1):=(fun x=>x) rfl
theorem sk_p:Md.sk .p=.p:=(fun x=>x) rfl
theorem sk_d:Md.sk .d=.d:=(fun x=>x) rfl
theorem sk_t {crit:List (Nat × Nat)} {acc:List (Option (List Nat))}:Md.sk (.t crit acc)=.t crit (some []::acc):=(fun x=>x) rfl
theorem qaI {L:Md}:brG true P pol K I f L d tk op r Q e h=oB (resStep pol K I f d h (iStep P pol f e h op)) (opsK P pol K I f L d tk r Q e h):=(fun x=>x) rfl
theorem qaJ {L:Md}:brG false P pol K I f L d tk op r Q e h=wo P pol K I f L.sk r Q (upd e d (.t (.sc undef))) h:=(fun x=>x) rfl
theorem qaK {L:Md} {b:Bool}:gB (.t (.sc (.bool b))) true P pol K I f L d tk op r Q e h=brG b P pol K I f L d tk op r Q e h:=by simp [gB]
theorem qaL {L:Md} {b:Bool}:gB (.t (.sc (.bool b))) false P pol K I f L d tk op r Q e h=brG (!b) P pol K I f L d tk op r Q e h:=by cases b <;> simp [gB]
theorem qaM {L:Md} {w:Bool}:gB (.t (.sc undef)) w P pol K I f L d tk op r Q e h=wo P pol K I f L.sk r Q (upd e d (.t (.sc undef))) h:=(fun x=>x) rfl
theorem qaN {L:Md} {c:Bool} (h1:c=true→oB (resStep pol K I f d h (iStep P pol f e h op)) (opsK P pol K I f L d tk r Q e h)) (h2:c=false→wo P pol K I f L.sk r Q (upd e d (.t (.sc undef))) h):brG c P pol K I f L d tk op r Q e h:=by
 cases c with
 | true=>exact h1 rfl
 | false=>exact h2 rfl
theorem qaO {l:List Nat} {h':Heap}:touchN (some l) h h'=some (l++List.range' h.length (h'.length - h.length)):=(fun x=>x) rfl
theorem qaP {l:List Src}:tkOf pol f d e (.objs l)=some ((srcs e l).flatMap objsOf):=(fun x=>x) rfl
def tkA (fr:Bool) (args:List AV):Option (List T)→Option (List Nat)
 | some _=>some []
 | none=>if fr=true then some (namesAll args) else none
theorem qaQ {fr:Bool} {args:List AV} {ts:List T}:tkA fr args (some ts)=some []:=(fun x=>x) rfl
theorem qaR {fr:Bool} {args:List AV}:tkA fr args none=if fr=true then some (namesAll args) else none:=(fun x=>x) rfl
def tkC (pol:Pol) (f:FuncId) (d:Option Tmp):Option Res→Option (List Nat)
 | some (.call (.fn k) args)=>if pol.inl k f (d.getD 0) then none else tkA (pol.fresh k f (d.getD 0)) args (allT args)
 | _=>none
theorem qaS {g:Src} {args:List Src}:tkOf pol f d e (.cal g args)=tkC pol f d (aCallee (g.get e) (srcs e args)):=by
 simp only [tkOf]
 rcases aCallee (g.get e) (srcs e args) with _|⟨_|_|⟨_|_,xs⟩⟩
 ·rfl
 ·rfl
 ·rfl
 ·simp only [tkC]
  split
  ·rfl
  ·cases allT xs <;> rfl
 ·rfl
theorem qaT {k:FuncId} {args:List AV}:tkC pol f d (some (.call (.fn k) args))=if pol.inl k f (d.getD 0) then none else tkA (pol.fresh k f (d.getD 0)) args (allT args):=(fun x=>x) rfl
theorem ob_t {x:T}:objsOf (.t x)=[]:=(fun x=>x) rfl
theorem qaU {o q i k:Nat}:objsOf (.ref o q i k)=[o]:=(fun x=>x) rfl
theorem ob_ms {o q i l k:Nat} {c:Bool}:objsOf (.ms o q i l k c)=[o]:=(fun x=>x) rfl
theorem ob_mp {o:Nat}:objsOf (.mp o)=[o]:=(fun x=>x) rfl
section
variable {R:Xit→FEnv→Heap→Prop} {a b c:C}
def normK (R:Xit→FEnv→Heap→Prop) (e:FEnv) (h:Heap):Prop:=R .normal e h
theorem qaV:normK R e h=R .normal e h:=(fun x=>x) rfl
def wc (P:Program) (pol:Pol) (K:Oracle) (I:Inl) (n:Nat) (f:FuncId) (c:C) (R:Xit→FEnv→Heap→Prop) (e:FEnv) (h:Heap):Prop:=wpC P pol K I n f c R e h
def seqK (Y:FEnv→Heap→Prop) (R:Xit→FEnv→Heap→Prop):Xit→FEnv→Heap→Prop:=fun x e h=>match x with
 | .normal=>Y e h
 | .exit id=>R (.exit id) e h
 | .ret=>R .ret e h
theorem qaW {Y:FEnv→Heap→Prop}:seqK Y R .normal e h=Y e h:=(fun x=>x) rfl
theorem qaX {Y:FEnv→Heap→Prop} {id:Nat}:seqK Y R (.exit id) e h=R (.exit id) e h:=(fun x=>x) rfl
theorem qaY {Y:FEnv→Heap→Prop}:seqK Y R .ret e h=R .ret e h:=(fun x=>x) rfl
def blkK (id:Nat) (R:Xit→FEnv→Heap→Prop):Xit→FEnv→Heap→Prop:=fun x e h=>match x with
 | .exit j=>if j=id then R .normal e h else R (.exit j) e h
 | .normal=>R .normal e h
 | .ret=>R .ret e h
theorem qaZ {id:Nat}:blkK id R .normal e h=R .normal e h:=(fun x=>x) rfl
theorem qb0 {id:Nat}:blkK id R .ret e h=R .ret e h:=(fun x=>x) rfl
theorem qb1 {id j:Nat}:blkK id R (.exit j) e h=if j=id then R .normal e h else R (.exit j) e h:=(fun x=>x) rfl
def itK (n0:Nat) (Y:FEnv→Heap→Prop) (R:Xit→FEnv→Heap→Prop):Xit→FEnv→Heap→Prop:=fun x e h=>match x with
 | .normal=>hB (shrinkF n0 e h) Y
 | .exit id=>R (.exit id) e h
 | .ret=>R .ret e h
theorem qb2 {n0:Nat} {Y:FEnv→Heap→Prop}:itK n0 Y R .normal e h=hB (shrinkF n0 e h) Y:=(fun x=>x) rfl
theorem qb3 {n0:Nat} {Y:FEnv→Heap→Prop} {id:Nat}:itK n0 Y R (.exit id) e h=R (.exit id) e h:=(fun x=>x) rfl
theorem qb4 {n0:Nat} {Y:FEnv→Heap→Prop}:itK n0 Y R .ret e h=R .ret e h:=(fun x=>x) rfl
def brC (c:Bool) (P:Program) (pol:Pol) (K:Oracle) (I:Inl) (n:Nat) (f:FuncId) (a b:C) (R:Xit→FEnv→Heap→Prop) (e:FEnv) (h:Heap):Prop :=
 if c then wc P pol K I n f a R e h else wc P pol K I n f b R e h
def cB (v:AV) (P:Program) (pol:Pol) (K:Oracle) (I:Inl) (n:Nat) (f:FuncId) (a b:C) (R:Xit→FEnv→Heap→Prop) (e:FEnv) (h:Heap):Prop :=
 match v with
 | .t (.sc (.bool c))=>brC c P pol K I n f a b R e h
 | _=>False
theorem qb5 {t:Bool}:cB (.t (.sc (.bool t))) P pol K I n f a b R e h=brC t P pol K I n f a b R e h:=(fun x=>x) rfl
theorem qb6:brC true P pol K I n f a b R e h=wc P pol K I n f a R e h:=(fun x=>x) rfl
theorem qb7:brC false P pol K I n f a b R e h=wc P pol K I n f b R e h:=(fun x=>x) rfl
theorem qb8 {t:Bool} (h1:t=true→wc P pol K I n f a R e h) (h2:t=false→wc P pol K I n f b R e h):brC t P pol K I n f a b R e h:=by
 cases t with
 | true=>exact h1 rfl
 | false=>exact h2 rfl
theorem c_nop:wc P pol K I n f .nop R e h=R .normal e h:=(fun x=>x) rfl
theorem c_seq:wc P pol K I n f (.seq a b) R e h=wc P pol K I n f a (seqK (wc P pol K I n f b R) R) e h:=(fun x=>x) rfl
theorem qb9 {x:Src}:wc P pol K I n f (.cond x a b) R e h=cB (x.get e) P pol K I n f a b R e h:=by
 simp only [wc,wpC,cB,brC]
 cases x.get e with
 | t x=>cases x with
  | sc v=>cases v <;> rfl
  | _=>rfl
 | _=>rfl
theorem qba {id:Nat}:wc P pol K I n f (.block id c) R e h=wc P pol K I n f c (blkK id R) e h:=(fun x=>x) rfl
theorem qbb {live:Option (List Tmp)}:wc P pol K I n f (.loop live c) R e h=wpIter h.length live (wc P pol K I n f c) R n e h:=(fun x=>x) rfl
theorem qbc {id:Nat}:wc P pol K I n f (.exit id) R e h=R (.exit id) e h:=(fun x=>x) rfl
theorem c_ret:wc P pol K I n f .ret R e h=R .ret e h:=(fun x=>x) rfl
theorem c_ops {l:List I1}:wc P pol K I n f (.ops l) R e h=wo P pol K I f .p l (normK R) e h:=(wo_eq l).symm
theorem qbd {l:List I1} (hw:wo P pol K I f .d l (normK R) e h):wc P pol K I n f (.opsD [] l) R e h:=qaw l (fun e h ts hh=>⟨rfl,hh⟩) hw
theorem qbe {crit:List (Nat × Nat)} {l:List I1} (hw:wo P pol K I f (.t crit []) l (normK R) e h):wc P pol K I n f (.opsD crit l) R e h:=qax l (fun e h ts hc hh=>⟨by simpa using hc,hh⟩) hw
theorem q07 {n0:Nat} {live:Option (List Tmp)} {body:(Xit→FEnv→Heap→Prop)→FEnv→Heap→Prop} {k:Nat} :
  wpIter n0 live body R (k+1) e h=body (itK n0 (wpIter n0 live body R k) R) (tidyF live e) h:=by
 simp only [wpIter]
 congr 1
theorem qbf {ts:List Tmp} {t:Nat}:tidyF (some ts) e t=if ts.contains t then e t else .dead:=(fun x=>x) rfl
theorem q5W {n0:Nat} (hl:h.length≤n0):shrinkF n0 e h=some (e,h):=by simp [shrinkF,hl]
end
def rsK (Q:AV→Heap→Prop) (h:Heap) (vs:List AV):Prop:=Q (one vs) h
theorem qbg {Q:AV→Heap→Prop} {vs:List AV}:rsK Q h vs=Q (one vs) h:=(fun x=>x) rfl
def endK (rs:List (Nat × Option (Bool × Nat))) (Q:AV→Heap→Prop):Xit→FEnv→Heap→Prop:=fun x e h=>match x with
 | .exit _=>False
 | _=>match resF e h rs with
  | some vs=>Q (one vs) h
  | none=>False
theorem qbh {rs:List (Nat × Option (Bool × Nat))} {Q:AV→Heap→Prop}:endK rs Q .ret e h=vB (resF e h rs) (rsK Q h):=by simp only [endK,vB,rsK]
theorem qbi {rs:List (Nat × Option (Bool × Nat))} {Q:AV→Heap→Prop}:endK rs Q .normal e h=vB (resF e h rs) (rsK Q h):=by simp only [endK,vB,rsK]
theorem qbj (v:AV):one [v]=v:=(fun x=>x) rfl
theorem qbk (v w:AV) (l:List AV):one (v::w::l)=mkTup (v::w::l):=(fun x=>x) rfl
theorem qbl (v:AV) (h':Heap):resStep pol K I f d h (some (.val v h'))=some (v,h'):=(fun x=>x) rfl
theorem qbm (h':Heap):resStep pol K I f d h (some (.skip h'))=some (.t (.sc undef),h'):=(fun x=>x) rfl
theorem qbn (g:Tgt) (args:List AV):resStep pol K I f d h (some (.call g args))=aCall pol K I f (d.getD 0) g args h:=(fun x=>x) rfl
theorem qbo (v:AV):vOf h (some v)=some (.val v h):=(fun x=>x) rfl
theorem qbp (h':Heap):hOf (some h')=some (.skip h'):=(fun x=>x) rfl
theorem qbq (v:AV) (h':Heap):vhOf (some (v,h'))=some (.val v h'):=(fun x=>x) rfl
theorem qbr {bl:Bool} {k:IntKind} {x y:Int}:iBin .add bl (.t (.sc (.int k x))) (.t (.sc (.int k y)))=some (.t (.sc (.int k (k.wrap (x+y))))):=by simp [iBin]
theorem qbs {bl:Bool} {k:IntKind} {x y:Int}:iBin .sub bl (.t (.sc (.int k x))) (.t (.sc (.int k y)))=some (.t (.sc (.int k (k.wrap (x - y))))):=by simp [iBin]
theorem qbt {bl:Bool} {k:IntKind} {x y:Int}:iBin .mul bl (.t (.sc (.int k x))) (.t (.sc (.int k y)))=some (.t (.sc (.int k (k.wrap (x*y))))):=by simp [iBin]
theorem qbu {bl:Bool} {k:IntKind} {x y:Int}:iBin .eql bl (.t (.sc (.int k x))) (.t (.sc (.int k y)))=some (.t (.sc (.bool (decide (x=y))))):=by simp [iBin,bo]
theorem qbv {bl:Bool} {k:IntKind} {x y:Int}:iBin .neq bl (.t (.sc (.int k x))) (.t (.sc (.int k y)))=some (.t (.sc (.bool (!decide (x=y))))):=by simp [iBin,bo]
theorem qbw {bl:Bool} {k:IntKind} {x y:Int}:iBin .lss bl (.t (.sc (.int k x))) (.t (.sc (.int k y)))=some (.t (.sc (.bool (decide (x < y))))):=by simp [iBin,bo]
theorem qbx {bl:Bool} {k:IntKind} {x y:Int}:iBin .leq bl (.t (.sc (.int k x))) (.t (.sc (.int k y)))=some (.t (.sc (.bool (decide (x≤y))))):=by simp [iBin,bo]
theorem qby {bl:Bool} {k:IntKind} {x y:Int}:iBin .gtr bl (.t (.sc (.int k x))) (.t (.sc (.int k y)))=some (.t (.sc (.bool (decide (y < x))))):=by simp [iBin,bo]
theorem qbz {bl:Bool} {k:IntKind} {x y:Int}:iBin .geq bl (.t (.sc (.int k x))) (.t (.sc (.int k y)))=some (.t (.sc (.bool (decide (y≤x))))):=by simp [iBin,bo]
theorem qbA {x y:Bool}:iBin .eql true (.t (.sc (.bool x))) (.t (.sc (.bool y)))=some (.t (.sc (.bool (x == y)))):=by simp [iBin,bo]
theorem qbB {x y:Bool}:iBin .neq true (.t (.sc (.bool x))) (.t (.sc (.bool y)))=some (.t (.sc (.bool (x != y)))):=by simp [iBin,bo]
theorem qbC {bl:Bool} {k:IntKind} {x y:Int}:iBin .rem bl (.t (.sc (.int k x))) (.t (.sc (.int k y)))=if y=0 then none else some (.t (.sc (.int k (x.tmod y)))):=by simp [iBin]
theorem qbD {bl:Bool} {k:IntKind} {x y:Int}:iBin .quo bl (.t (.sc (.int k x))) (.t (.sc (.int k y)))=if y=0 then none else some (.t (.sc (.int k (k.wrap (x.tdiv y))))):=by simp [iBin]
theorem qbE {bl:Bool} {k k':IntKind} {x y:Int}:iBin .shl bl (.t (.sc (.int k x))) (.t (.sc (.int k' y)))=if y < 0 then none else some (.t (.sc (.int k (k.wrap (x*2 ^ (min y.toNat k.bits)))))):=by simp [iBin]
theorem qbF {bl:Bool} {k k':IntKind} {x y:Int}:iBin .shr bl (.t (.sc (.int k x))) (.t (.sc (.int k' y)))=if y < 0 then none else some (.t (.sc (.int k (x.fdiv (2 ^ (min y.toNat k.bits)))))):=by simp [iBin]
theorem qbG {bl:Bool} {x y:ByteArray}:iBin .eql bl (.t (.sc (.string x))) (.t (.sc (.string y)))=some (.t (.sc (.bool (x.toList == y.toList)))):=by simp [iBin,bo]
theorem qbH {bl:Bool} {x y:ByteArray}:iBin .neq bl (.t (.sc (.string x))) (.t (.sc (.string y)))=some (.t (.sc (.bool (!(x.toList == y.toList))))):=by simp [iBin,bo]
theorem qbI (b:Bool):iNot (.t (.sc (.bool b)))=some (.t (.sc (.bool !b))):=(fun x=>x) rfl
theorem qbJ {k:IntKind} {x:Int}:iNeg (.t (.sc (.int k x)))=some (.t (.sc (.int k (k.wrap (0 - x))))):=(fun x=>x) rfl
theorem qbK {k k':IntKind} {x:Int}:iConv k (.t (.sc (.int k' x)))=some (.t (.sc (.int k (k.wrap x)))):=(fun x=>x) rfl
theorem qbL {c x y:Bool}:iPick (.t (.sc (.bool c))) (.t (.sc (.bool x))) (.t (.sc (.bool y)))=some (.t (.sc (.bool (if c then x else y)))):=(fun x=>x) rfl
theorem qbM {x y:AV}:iPick (.t (.sc (.bool true))) x y=some x:=by simp only [iPick]; split <;> simp_all [bo]
theorem qbN {x y:AV}:iPick (.t (.sc (.bool false))) x y=some y:=by simp only [iPick]; split <;> simp_all [bo]
theorem qbO {b:Bool} {k:Nat} {cs:List T}:iLoad b k (.t (.ip cs)) h=(takeRT b k cs).map .t:=by simp only [iLoad]; cases takeRT b k cs <;> rfl
theorem qbP {b:Bool} {k o i off q:Nat}:iLoad b k (.ref o q i off) h=(rowAt h o q i).bind (fun v=>takeR b k (v.cells.drop off)):=by simp only [iLoad]; cases rowAt h o q i <;> rfl
theorem qbQ {k:Nat} {cs:List T}:takeRT true k cs=if k≤cs.length then some (.agg (cs.take k)) else none:=(fun x=>x) rfl
theorem qbR {k:Nat} {cs:List T}:takeRT false k cs=cs.head?:=(fun x=>x) rfl
theorem qbS {k:Nat} {cs:List AV}:takeR true k cs=if k≤cs.length then some (mkAgg (cs.take k)) else none:=(fun x=>x) rfl
theorem qbT {k:Nat} {cs:List AV}:takeR false k cs=cs.head?:=(fun x=>x) rfl
theorem fa_ip {off:Nat} {cs:List T}:iFieldAddr off (.t (.ip cs))=some (.t (.ip (cs.drop off))):=(fun x=>x) rfl
theorem qbU {off o q i k:Nat}:iFieldAddr off (.ref o q i k)=some (.ref o q i (k+off)):=(fun x=>x) rfl
theorem qbV (cs:List T):(AV.t (.agg cs)).cells=cs.map .t:=(fun x=>x) rfl
theorem qbW (v:Value):(AV.t (.sc v)).cells=[.t (.sc v)]:=(fun x=>x) rfl
theorem qbX (c:Bool) (k:Nat) (xs:List T):(AV.t (.sl c k xs)).cells=[.t (.sl c k xs)]:=(fun x=>x) rfl
theorem qbY {o q i l k:Nat} {c:Bool}:(AV.ms o q i l k c).cells=[.ms o q i l k c]:=(fun x=>x) rfl
theorem qbZ (cs:List AV):(AV.agg cs).cells=cs:=(fun x=>x) rfl
theorem qc0 (cs:List T):(T.agg cs).cells=cs:=(fun x=>x) rfl
theorem qc1 (v:Value):(T.sc v).cells=[.sc v]:=(fun x=>x) rfl
theorem qc2 (c:Bool) (k:Nat) (xs:List T):(T.sl c k xs).cells=[.sl c k xs]:=(fun x=>x) rfl
def kB (h:Heap):Option T→Option (AV × Heap)
 | some r=>some (.t r,h)
 | none=>none
theorem qc3 (r:T):kB h (some r)=some (.t r,h):=(fun x=>x) rfl
def callT (K:Oracle) (I:Inl) (g:FuncId) (args:List AV) (h:Heap):Option (List T)→Option (AV × Heap)
 | some ts=>kB h (K g ts)
 | none=>match mapO (snap h allObj 20) args with
  | some ts=>match K g ts with|some r=>if r.plain then some (.t r,h) else none|none=>none
  | none=>I (.fn g) args h
theorem qc4 {g:FuncId} {args:List AV} {ts:List T}:callT K I g args h (some ts)=kB h (K g ts):=(fun x=>x) rfl
theorem qc5 {g at_:FuncId} {t:Tmp} {args:List AV} (hi:pol.inl g at_ t=false) (hf:pol.fresh g at_ t=false):aCall pol K I at_ t (.fn g) args h=callT K I g args h (allT args):=by
 unfold aCall callT
 simp only [hi,hf,Bool.false_and,Bool.false_eq_true,if_false]
 cases allT args with
 | none=>rfl
 | some ts=>cases K g ts <;> rfl
def freshT (K:Oracle) (I:Inl) (g:FuncId) (args:List AV) (h:Heap):Option (List T)→Option (AV × Heap)
 | some _=>freshB h (I (.fn g) args (List.replicate h.length .gone))
 | none=>none
theorem qc6 {g:FuncId} {args:List AV} {ts:List T}:freshT K I g args h (some ts)=freshB h (I (.fn g) args (List.replicate h.length .gone)):=(fun x=>x) rfl
def freshK (h:Heap) (k:AV→Heap→Prop) (v:AV) (h2:Heap):Prop:=(h.length≤h2.length∧avoid (belowB h.length) v=true∧avoidObjs (belowB h.length) (h2.drop h.length)=true)∧k v (h++h2.drop h.length)
theorem qc7 {k:AV→Heap→Prop} {v:AV} {h2:Heap}:freshK h k v h2=((h.length≤h2.length∧avoid (belowB h.length) v=true∧avoidObjs (belowB h.length) (h2.drop h.length)=true)∧k v (h++h2.drop h.length)):=(fun x=>x) rfl
theorem q5X {x:Option (AV × Heap)} {k:AV→Heap→Prop}:oB (freshB h x) k=oB x (freshK h k):=by
 cases x with
 | none=>rfl
 | some y =>
  obtain ⟨v,h2⟩:=y
  simp only [freshB,oB,freshK]
  by_cases hc:(decide (h.length≤h2.length) && avoid (belowB h.length) v && avoidObjs (belowB h.length) (h2.drop h.length))=true
  ·rw [if_pos hc]
   simp only [Bool.and_eq_true,decide_eq_true_eq] at hc
   simp only [hc.1.1,hc.1.2,hc.2,and_self,true_and]
  ·rw [if_neg hc]
   simp only [Bool.and_eq_true,decide_eq_true_eq] at hc
   simp only [eq_iff_iff,false_iff]
   intro h
   exact hc ⟨⟨h.1.1,h.1.2.1⟩,h.1.2.2⟩
theorem qc8 {g at_:FuncId} {t:Tmp} {args:List AV} (hf:pol.fresh g at_ t=true) (hi:pol.inl g at_ t=false) (hp:primB pol g args=false) (hx:(allT args).isSome=true):aCall pol K I at_ t (.fn g) args h=freshT K I g args h (allT args):=by
 unfold aCall freshT
 simp only [hi,hf,hp,Bool.not_false,Bool.and_self,Bool.false_and,Bool.false_eq_true,if_false]
 cases hts:allT args with
 | none=>rw [hts] at hx; cases hx
 | some ts=>simp
def freshST (I:Inl) (g:FuncId) (h:Heap):Option (List T)→Option (AV × Heap)
 | some ts=>freshS h (I (.fn g) (ts.map .t) (List.replicate h.length .gone))
 | none=>none
theorem qc9 {g:FuncId} {ts:List T}:freshST I g h (some ts)=freshS h (I (.fn g) (ts.map .t) (List.replicate h.length .gone)):=(fun x=>x) rfl
def freshKS (h:Heap) (k:AV→Heap→Prop) (v:AV) (h2:Heap):Prop:=(plainV v=true∧plainObjs (h2.drop h.length)=true)∧freshK h k v h2
theorem qca {k:AV→Heap→Prop} {v:AV} {h2:Heap}:freshKS h k v h2=((plainV v=true∧plainObjs (h2.drop h.length)=true)∧freshK h k v h2):=(fun x=>x) rfl
theorem qcb {x:Option (AV × Heap)} {k:AV→Heap→Prop}:oB (freshS h x) k=oB x (freshKS h k):=by
 cases x with
 | none=>rfl
 | some y =>
  obtain ⟨v,h2⟩:=y
  simp only [freshS]
  by_cases hc:(plainV v && plainObjs (h2.drop h.length))=true
  ·rw [if_pos hc,q5X]
   simp only [Bool.and_eq_true] at hc
   simp only [oB,freshKS,hc.1,hc.2,and_self,true_and]
  ·rw [if_neg hc]
   simp only [Bool.and_eq_true] at hc
   simp only [oB,freshKS,eq_iff_iff,false_iff]
   intro h
   exact hc h.1
theorem plV_t {x:T}:plainV (.t x)=x.plain:=by simp [plainV]
theorem qcc {o e i l k:Nat} {c:Bool}:plainV (.ms o e i l k c)=true:=by simp [plainV]
theorem qcd {cs:List AV}:plainV (.tup cs)=plainVs cs:=by simp [plainV]
theorem qce {cs:List AV}:plainV (.agg cs)=plainVs cs:=by simp [plainV]
theorem qcf:plainVs []=true:=by simp [plainVs]
theorem qcg {x:AV} {r:List AV}:plainVs (x::r)=(plainV x && plainVs r):=by simp [plainVs]
theorem qch:plainObjs []=true:=by simp [plainObjs]
theorem qci {k mr:Nat} {es:List AV} {r:List AObj}:plainObjs (.row k es mr::r)=(plainVs es && plainObjs r):=by simp [plainObjs]
theorem qcj {r:List AObj}:plainObjs (.gone::r)=plainObjs r:=by simp [plainObjs]
theorem qck {p:Nat→Bool}:avoidObjs p []=true:=(fun x=>x) rfl
theorem qcl {p:Nat→Bool} {x:AObj} {r:List AObj}:avoidObjs p (x::r)=(avoidObj p x && avoidObjs p r):=(fun x=>x) rfl
theorem qcm {p:Nat→Bool} {k mr:Nat} {es:List AV}:avoidObj p (.row k es mr)=avoidAll p es:=(fun x=>x) rfl
theorem qcn {p:Nat→Bool}:avoidObj p .gone=true:=(fun x=>x) rfl
theorem qco {n o:Nat}:belowB n o=decide (o < n):=(fun x=>x) rfl
theorem qcp {g:FuncId} {args:List AV} (hp:pol.prim g=false):primB pol g args=false:=by simp [primB,hp]
theorem qcq {g:FuncId} {c:Bool} {k:Nat} {x:T} {xs:List T}:primB pol g [.t (.sl c k (x::xs))]=false:=by simp [primB]
theorem qcr {g:FuncId} {v:Value}:primB pol g [.t (.sc v)]=false:=by simp [primB]
theorem qcs {g:FuncId} {o e i n k:Nat} {c:Bool}:primB pol g [.ms o e i n k c]=false:=by simp [primB]
theorem qct {g at_:FuncId} {t:Tmp} {args:List AV} (hi:pol.inl g at_ t=true) (hp:primB pol g args=false):aCall pol K I at_ t (.fn g) args h=I (.fn g) args h:=by
 unfold aCall
 simp only [hi,hp,Bool.not_false,Bool.and_self,if_true]
theorem qcu {g at_:FuncId} {t:Tmp} {c:Bool} {k:Nat} (hp:pol.prim g=true):aCall pol K I at_ t (.fn g) [.t (.sl c k [])] h=kB h (K g [.sl c k []]):=by
 have:primB pol g [.t (.sl c k [])]=true:=by simp [primB,hp]
 unfold aCall
 simp only [this,Bool.not_true,Bool.and_false,Bool.false_eq_true,if_false]
 simp only [allT]
 cases K g [.sl c k []] <;> rfl
theorem qcv {o:Nat} {at_:FuncId} {t:Tmp} {args:List AV}:aCall pol K I at_ t (.yl o) args h=I (.yl o) args h:=(fun x=>x) rfl
def consO (x:T):Option (List T)→Option (List T)
 | some xs=>some (x::xs)
 | none=>none
theorem q3B (x:T) (xs:List T):consO x (some xs)=some (x::xs):=(fun x=>x) rfl
theorem qcw:allT []=some []:=(fun x=>x) rfl
theorem qcx (x:T) (r:List AV):allT (.t x::r)=consO x (allT r):=by simp only [allT]; cases allT r <;> rfl
theorem qcy {o q i k:Nat} {r:List AV}:allT (.ref o q i k::r)=none:=(fun x=>x) rfl
theorem qcz {o q i l k:Nat} {c:Bool} {r:List AV}:allT (.ms o q i l k c::r)=none:=(fun x=>x) rfl
theorem qcA {o:Nat} {r:List AV}:allT (.mp o::r)=none:=(fun x=>x) rfl
theorem qcB (x:T):consO x none=none:=(fun x=>x) rfl
theorem qcC {k:FuncId} {a b:List T} {args:List AV}:aCallee (.t (.fn (.func k) a b)) args=some (.call (.fn k) (a.map .t++args++b.map .t)):=(fun x=>x) rfl
theorem qcD {k:FuncId} {a b:List AV} {args:List AV}:aCallee (.fn (.func k) a b) args=some (.call (.fn k) (a++args++b)):=(fun x=>x) rfl
theorem qcE {o:Nat} {args:List AV}:aCallee (.yl o) args=some (.call (.yl o) args):=(fun x=>x) rfl
def aggO (cs:List AV):Option (List T)→AV
 | some ts=>.t (.agg ts)
 | none=>.agg cs
theorem qcF (cs:List AV):mkAgg cs=aggO cs (allT cs):=by unfold mkAgg aggO; cases allT cs <;> rfl
theorem qcG (cs:List AV) (ts:List T):aggO cs (some ts)=.t (.agg ts):=(fun x=>x) rfl
theorem qcH (cs:List AV):aggO cs none=.agg cs:=(fun x=>x) rfl
def tupO (cs:List AV):Option (List T)→AV
 | some ts=>.t (.tup ts)
 | none=>.tup cs
theorem qcI (cs:List AV):mkTup cs=tupO cs (allT cs):=by unfold mkTup tupO; cases allT cs <;> rfl
theorem qcJ (cs:List AV) (ts:List T):tupO cs (some ts)=.t (.tup ts):=(fun x=>x) rfl
theorem qcK (cs:List AV):tupO cs none=.tup cs:=(fun x=>x) rfl
theorem qcL (vs:List T) (i:Nat):iExt (.t (.tup vs)) i=(vs[i]?).map .t:=by simp only [iExt]; cases vs[i]? <;> rfl
theorem qcM (vs:List AV) (i:Nat):iExt (.tup vs) i=vs[i]?:=(fun x=>x) rfl
theorem q5Y {c:Bool} {k:Nat} {xs:List T}:iLen (.t (.sl c k xs))=some (.t (.sc (.int .i64 xs.length))):=(fun x=>x) rfl
theorem qcN:iLen (.t (.sc (.slice none 0 0)))=some (.t (.sc (.int .i64 0))):=(fun x=>x) rfl
theorem qcO {o q i l k:Nat} {c:Bool}:iLen (.ms o q i l k c)=some (.t (.sc (.int .i64 l))):=(fun x=>x) rfl
def mkC (_:List Nat) (c:C):C:=c
def mkL (_:List Nat) (l:List I1):List I1:=l
def updL (e e0:FEnv):List Nat→FEnv
 | []=>e0
 | t::ts=>upd (updL e e0 ts) (some t) (e t)
theorem qcP {e0:FEnv}:updL e e0 []=e0:=(fun x=>x) rfl
theorem q5Z {e0:FEnv} {t:Nat} {ts:List Nat}:updL e e0 (t::ts)=upd (updL e e0 ts) (some t) (e t):=(fun x=>x) rfl
theorem q60 (ts:List Nat):updL e e ts=e:=by
 induction ts with
 | nil=>rfl
 | cons t ts ih =>
  rw [q5Z,ih]
  funext s
  simp only [upd]
  split
  ·rename_i h; rw [h]
  ·rfl
theorem qcQ {ts:List Nat} {c:C} {R:Xit→FEnv→Heap→Prop} (hw:∀ e0,wc P pol K I n f c R (updL e e0 ts) h):wc P pol K I n f (mkC ts c) R e h:=by
 have:=hw e
 rwa [q60] at this
theorem qcR {L:Md} {ts:List Nat} (hw:∀ e0,wo P pol K I f L r Q (updL e e0 ts) h):wo P pol K I f L (mkL ts r) Q e h:=by
 have:=hw e
 rwa [q60] at this
theorem is_mv {x:Src}:iStep P pol f e h (.mv x)=some (.val (x.get e) h):=(fun x=>x) rfl
theorem qcS {size:Nat} {x:Src}:iStep P pol f e h (.gmv size x)=some (iGrow size (x.get e) h):=(fun x=>x) rfl
theorem is_pk {c a b:Src}:iStep P pol f e h (.pk c a b)=vOf h (iPick (c.get e) (a.get e) (b.get e)):=(fun x=>x) rfl
theorem is_nw {k:Nat} {z:T}:iStep P pol f e h (.nw k z)=some (.val (.ref h.length 1 0 0) (h++[.row k [.t z] 0])):=(fun x=>x) rfl
theorem qcT {size:Nat}:iStep P pol f e h (.nwG size)=some (.val (.ref (h.length+1) 1 0 0) (h++[.row size [] 0,.row 1 [.ms h.length 0 0 0 size false] 0])):=(fun x=>x) rfl
theorem is_bx {m:Bool} {x:Src}:iStep P pol f e h (.bx m x)=iBox m (x.get e) h:=(fun x=>x) rfl
theorem is_bd {cs:List T} {parts:List (Nat × Nat × Src)}:iStep P pol f e h (.bd cs parts)=vOf h (iBuild cs (parts3 e parts)):=(fun x=>x) rfl
theorem is_bs {m:Bool} {size len:Nat} {z:T} {parts:List (Nat × Src)}:iStep P pol f e h (.bs m size z len parts)=iBuildS m size z len (parts2 e parts) h:=(fun x=>x) rfl
theorem is_ld {agg:Bool} {k:Nat} {a:Src}:iStep P pol f e h (.ld agg k a)=vOf h (iLoad agg k (a.get e) h):=(fun x=>x) rfl
theorem is_st {k:Nat} {a x:Src}:iStep P pol f e h (.st k a x)=hOf (iStore k (a.get e) (x.get e) h):=(fun x=>x) rfl
theorem is_nc {x:Src}:iStep P pol f e h (.nc x)=vOf h (iNil (x.get e)):=(fun x=>x) rfl
theorem qcU {o:BinOp} {bl:Bool} {x y:Src}:iStep P pol f e h (.bin o bl x y)=vOf h (iBin o bl (x.get e) (y.get e)):=(fun x=>x) rfl
theorem is_nt {x:Src}:iStep P pol f e h (.nt x)=vOf h (iNot (x.get e)):=(fun x=>x) rfl
theorem is_ng {x:Src}:iStep P pol f e h (.ng x)=vOf h (iNeg (x.get e)):=(fun x=>x) rfl
theorem is_cv {k:IntKind} {x:Src}:iStep P pol f e h (.cv k x)=vOf h (iConv k (x.get e)):=(fun x=>x) rfl
theorem is_fn {g:FuncId} {a b:List Src}:iStep P pol f e h (.fn g a b)=some (.val (iFn g (srcs e a) (srcs e b)) h):=(fun x=>x) rfl
theorem is_sl {size:Nat} {x:Src} {lo hi mx:Option Src}:iStep P pol f e h (.sl size x lo hi mx)=vOf h (iSlice size (x.get e) (optSrc e lo) (optSrc e hi) (optSrc e mx)):=(fun x=>x) rfl
theorem is_fa {off:Nat} {x:Src}:iStep P pol f e h (.fa off x)=vOf h (iFieldAddr off (x.get e)):=(fun x=>x) rfl
theorem is_fd {agg:Bool} {k off:Nat} {x:Src}:iStep P pol f e h (.fd agg k off x)=vOf h (iFld agg k off (x.get e)):=(fun x=>x) rfl
def idxS (size:Nat) (x:AV) (h:Heap):Option Nat→Option Res
 | some j=>vOf h (iIdxS size x j)
 | none=>none
theorem qcV {size:Nat} {x:AV} {j:Nat}:idxS size x h (some j)=vOf h (iIdxS size x j):=(fun x=>x) rfl
theorem qcW {size:Nat} {x i:Src}:iStep P pol f e h (.iaS size x i)=idxS size (x.get e) h (asNat (i.get e)):=by
 simp only [iStep,idxS]
 cases asNat (i.get e) <;> rfl
def idxA (len size:Nat) (x:AV) (h:Heap):Option Nat→Option Res
 | some j=>vOf h (iIdxA len size x j)
 | none=>none
theorem qcX {len size:Nat} {x:AV} {j:Nat}:idxA len size x h (some j)=vOf h (iIdxA len size x j):=(fun x=>x) rfl
theorem qcY {len size:Nat} {x i:Src}:iStep P pol f e h (.iaA len size x i)=idxA len size (x.get e) h (asNat (i.get e)):=by
 simp only [iStep,idxA]
 cases asNat (i.get e) <;> rfl
def ixA (agg:Bool) (k len size:Nat) (x:AV) (h:Heap):Option Nat→Option Res
 | some j=>if x.isAgg then (if j < len then vOf h (takeR agg k (x.cells.drop (j*size))) else none) else none
 | none=>none
theorem qcZ {agg:Bool} {k len size:Nat} {x:AV} {j:Nat}:ixA agg k len size x h (some j)=if x.isAgg then (if j < len then vOf h (takeR agg k (x.cells.drop (j*size))) else none) else none:=(fun x=>x) rfl
theorem qd0 {agg:Bool} {k len size:Nat} {x i:Src}:iStep P pol f e h (.ixA agg k len size x i)=ixA agg k len size (x.get e) h (asNat (i.get e)):=by
 simp only [iStep,ixA]
 cases asNat (i.get e) <;> rfl
theorem is_ex {x:Src} {i:Nat}:iStep P pol f e h (.ex x i)=vOf h (iExt (x.get e) i):=(fun x=>x) rfl
theorem qd1 {x:Src}:iStep P pol f e h (.lenS x)=vOf h (iLen (x.get e)):=(fun x=>x) rfl
theorem qd2 {size bytes:Nat} {s x:Src}:iStep P pol f e h (.app size bytes s x)=vhOf (iAppend size bytes (s.get e) (x.get e) h):=(fun x=>x) rfl
theorem qd3 {mx:Bool} {x y:Src}:iStep P pol f e h (.mnx mx x y)=vOf h (iMnx mx (x.get e) (y.get e)):=(fun x=>x) rfl
theorem qd4 {g:Src} {args:List Src}:iStep P pol f e h (.call g args)=aCallee (g.get e) (srcs e args):=(fun x=>x) rfl
theorem qd5:srcs e []=[]:=(fun x=>x) rfl
theorem qd6 {x:Src} {l:List Src}:srcs e (x::l)=x.get e::srcs e l:=(fun x=>x) rfl
theorem qd7:parts2 e []=[]:=(fun x=>x) rfl
theorem qd8 {i:Nat} {x:Src} {l:List (Nat × Src)}:parts2 e ((i,x)::l)=(i,x.get e)::parts2 e l:=(fun x=>x) rfl
theorem qd9:parts3 e []=[]:=(fun x=>x) rfl
theorem qda {i k:Nat} {x:Src} {l:List (Nat × Nat × Src)}:parts3 e ((i,k,x)::l)=(i,k,x.get e)::parts3 e l:=(fun x=>x) rfl
theorem qdb:optSrc e none=none:=(fun x=>x) rfl
theorem qdc {x:Src}:optSrc e (some x)=some (x.get e):=(fun x=>x) rfl
def consA (v:AV):Option (List AV)→Option (List AV)
 | some l=>some (v::l)
 | none=>none
theorem qdd {v:AV} {l:List AV}:consA v (some l)=some (v::l):=(fun x=>x) rfl
def consR (rest:Option (List AV)):Option AV→Option (List AV)
 | some v=>consA v rest
 | none=>none
theorem qde {v:AV} {l:Option (List AV)}:consR l (some v)=consA v l:=(fun x=>x) rfl
theorem qdf:resF e h []=some []:=(fun x=>x) rfl
theorem qdg {t:Nat} {l:List (Nat × Option (Bool × Nat))}:resF e h ((t,none)::l)=consA (e t) (resF e h l):=by
 simp only [resF]
 cases resF e h l <;> rfl
theorem qdh {t k:Nat} {b:Bool} {l:List (Nat × Option (Bool × Nat))}:resF e h ((t,some (b,k))::l)=consR (resF e h l) (iLoad b k (e t) h):=by
 simp only [resF]
 cases iLoad b k (e t) h <;> cases resF e h l <;> rfl
def retQ (r:T) (v:AV) (h:Heap):Prop:=snap h allObj 20 v=some r
theorem qdi {r x:T}:retQ r (.t x) h=(x=r):=by simp [retQ,snap]
theorem q02 {nt:Nat} {c:C} {rs:List (Nat × Option (Bool × Nat))} {args:List T} {r:T} (n d:Nat) (hF:cFn P pol f=some ⟨nt,c,rs⟩) (hl:args.length≤nt)
  (hw:wc P pol (ans P pol) (inl P pol (ans P pol) n d) n f c (endK rs (retQ r)) (envOf (args.map .t)) []) (hp:primT pol f args=none:=by rfl):ans P pol f args=some r :=
 q9W n d hF hp hl hw
theorem qdj {nt:Nat} {c:C} {rs:List (Nat × Option (Bool × Nat))} {args:List AV} {h:Heap} {n d:Nat} {Q:AV→Heap→Prop} (hF:cFn P pol f=some ⟨nt,c,rs⟩) (hl:args.length≤nt)
  (hw:wc P pol K (inl P pol K n d) n f c (endK rs Q) (envOf args) h):∃ v h',inl P pol K n (d+1) (.fn f) args h=some (v,h')∧Q v h':=q9X hF hl hw
def rwB (q i:Nat):Option AObj→Option AV
 | some (.row _ es mr)=>if mr≤q∧i < q∧q≤es.length then es[i]? else none
 | _=>none
theorem qdk {o q i:Nat}:rowAt h o q i=rwB q i (h[o]?):=by
 unfold rowAt rwB
 rcases h[o]? with _|⟨_|_|_|_⟩ <;> rfl
theorem q61 {q i k mr:Nat} {es:List AV}:rwB q i (some (.row k es mr))=if mr≤q∧i < q∧q≤es.length then es[i]? else none:=(fun x=>x) rfl
def stE (size off:Nat) (v:AV) (h:Heap) (o k q i:Nat) (elems:List AV):Option AV→Option Heap
 | some old=>if off+size≤k∧0 < size∧storableAll v.cells=true then some (h.set o (.row k (elems.set i (pack old.isAgg (splice old.cells off v.cells))) q)) else none
 | none=>none
def stB (size q i off:Nat) (v:AV) (h:Heap) (o:Nat):Option AObj→Option Heap
 | some (.row k elems mr)=>if q=elems.length∧v.cells.length=size∧mr≤q then stE size off v h o k q i elems (elems[i]?) else none
 | _=>none
theorem qdl {size o q i off:Nat} {v:AV}:iStore size (.ref o q i off) v h=stB size q i off v h o (h[o]?):=by
 simp only [iStore,stB]
 rcases h[o]? with _|⟨⟨k,elems,mr⟩|_|_|_⟩ <;> rfl
theorem qdm {size q i off o k mr:Nat} {v:AV} {elems:List AV}:stB size q i off v h o (some (.row k elems mr))=if q=elems.length∧v.cells.length=size∧mr≤q then stE size off v h o k q i elems (elems[i]?) else none:=(fun x=>x) rfl
theorem qdn {size q i off o k:Nat} {v old:AV} {elems:List AV}:stE size off v h o k q i elems (some old) =
  if off+size≤k∧0 < size∧storableAll v.cells=true then some (h.set o (.row k (elems.set i (pack old.isAgg (splice old.cells off v.cells))) q)) else none:=(fun x=>x) rfl
theorem qdo:storableAll []=true:=(fun x=>x) rfl
theorem q62 {v:AV} {l:List AV}:storableAll (v::l)=(storable v && storableAll l):=(fun x=>x) rfl
theorem qdp {k:IntKind} {x:Int}:storable (.t (.sc (.int k x)))=true:=(fun x=>x) rfl
theorem qdq {b:Bool}:storable (.t (.sc (.bool b)))=true:=(fun x=>x) rfl
theorem qdr {s:ByteArray}:storable (.t (.sc (.string s)))=true:=(fun x=>x) rfl
theorem qds {a:Option Addr} {x y:Nat}:storable (.t (.sc (.slice a x y)))=true:=(fun x=>x) rfl
theorem qdt {c:Bool} {k:Nat} {xs:List T}:storable (.t (.sl c k xs))=true:=(fun x=>x) rfl
theorem qdu {cs:List T}:storable (.t (.ip cs))=true:=(fun x=>x) rfl
theorem qdv {g:Fn} {a b:List T}:storable (.t (.fn g a b))=true:=(fun x=>x) rfl
theorem qdw {o q i l k:Nat} {c:Bool}:storable (.ms o q i l k c)=true:=(fun x=>x) rfl
theorem qdx {o q i k:Nat}:storable (.ref o q i k)=true:=(fun x=>x) rfl
theorem qdy {o:Nat}:storable (.mp o)=true:=(fun x=>x) rfl
theorem qdz {cs:List T}:(AV.t (.agg cs)).isAgg=true:=(fun x=>x) rfl
theorem qdA {cs:List AV}:(AV.agg cs).isAgg=true:=(fun x=>x) rfl
theorem qdB {v:Value}:(AV.t (.sc v)).isAgg=false:=(fun x=>x) rfl
theorem qdC {c:Bool} {k:Nat} {xs:List T}:(AV.t (.sl c k xs)).isAgg=false:=(fun x=>x) rfl
theorem qdD {cs:List T}:(AV.t (.ip cs)).isAgg=false:=(fun x=>x) rfl
theorem qdE {g:Fn} {a b:List T}:(AV.t (.fn g a b)).isAgg=false:=(fun x=>x) rfl
theorem qdF {o q i l k:Nat} {c:Bool}:(AV.ms o q i l k c).isAgg=false:=(fun x=>x) rfl
theorem qdG {o q i k:Nat}:(AV.ref o q i k).isAgg=false:=(fun x=>x) rfl
theorem qdH {cs:List T}:(AV.t (.ip cs)).cells=[.t (.ip cs)]:=(fun x=>x) rfl
theorem qdI {g:Fn} {a b:List T}:(AV.t (.fn g a b)).cells=[.t (.fn g a b)]:=(fun x=>x) rfl
theorem qdJ {o q i k:Nat}:(AV.ref o q i k).cells=[.ref o q i k]:=(fun x=>x) rfl
theorem qdK {o:Nat}:(AV.mp o).cells=[.mp o]:=(fun x=>x) rfl
theorem qdL {cs:List AV}:pack true cs=mkAgg cs:=by cases cs <;> rfl
theorem qdM {c:AV}:pack false [c]=c:=(fun x=>x) rfl
theorem qdN {cs vs:List AV} {off:Nat}:splice cs off vs=cs.take off++vs++cs.drop (off+vs.length):=(fun x=>x) rfl
def shB (n0:Nat) (e:FEnv) (h:Heap):Option Heap→Option (FEnv × Heap)
 | some h'=>some (frzF h (fromB n0) e,h')
 | none=>none
theorem q63 {n0:Nat} {h':Heap}:shB n0 e h (some h')=some (frzF h (fromB n0) e,h'):=(fun x=>x) rfl
theorem q3C {n0:Nat} (hl:n0 < h.length):shrinkF n0 e h=shB n0 e h (mapO (frzObj h (fromB n0)) (h.take n0)):=by
 unfold shrinkF shB
 rw [if_neg (by omega)]
 cases mapO (frzObj h (fromB n0)) (h.take n0) <;> rfl
def consH (x:AObj):Option Heap→Option Heap
 | some l=>some (x::l)
 | none=>none
theorem q64 {x:AObj} {l:Heap}:consH x (some l)=some (x::l):=(fun x=>x) rfl
def consHO (r:Option Heap):Option AObj→Option Heap
 | some x=>consH x r
 | none=>none
theorem q65 {x:AObj} {r:Option Heap}:consHO r (some x)=consH x r:=(fun x=>x) rfl
theorem qdO {g:AObj→Option AObj}:mapO g []=some []:=(fun x=>x) rfl
theorem q66 {g:AObj→Option AObj} {x:AObj} {l:Heap}:mapO g (x::l)=consHO (mapO g l) (g x):=by
 simp only [mapO]
 cases g x <;> cases mapO g l <;> rfl
theorem qdP {p:Nat→Bool} {k mr:Nat} {es:List AV} (ha:avoidAll p es=true):frzObj h p (.row k es mr)=some (.row k es mr):=by simp [frzObj,ha]
theorem qdQ {p:Nat→Bool}:frzObj h p .gone=some .gone:=(fun x=>x) rfl
theorem qdR {p:Nat→Bool} {es:List (Value × AV)} (ha:es.all (fun kv=>avoid p kv.2)=true):frzObj h p (.map es)=some (.map es):=by simp [frzObj,ha]
theorem q67 {p:Nat→Bool}:avoidAll p []=true:=(fun x=>x) rfl
theorem q3D {p:Nat→Bool} {v:AV} {l:List AV}:avoidAll p (v::l)=(avoid p v && avoidAll p l):=(fun x=>x) rfl
theorem av_t {p:Nat→Bool} {x:T}:avoid p (.t x)=true:=(fun x=>x) rfl
theorem av_ms {p:Nat→Bool} {o q i l k:Nat} {c:Bool}:avoid p (.ms o q i l k c) = !p o:=(fun x=>x) rfl
theorem qdS {p:Nat→Bool} {o q i k:Nat}:avoid p (.ref o q i k) = !p o:=(fun x=>x) rfl
theorem av_mp {p:Nat→Bool} {o:Nat}:avoid p (.mp o) = !p o:=(fun x=>x) rfl
theorem qdT {p:Nat→Bool} {cs:List AV}:avoid p (.agg cs)=avoidAll p cs:=(fun x=>x) rfl
theorem q23 {p:Nat→Bool} {xs:List T}:avoidAll p (xs.map .t)=true:=by
 induction xs with
 | nil=>rfl
 | cons x xs ih=>simp [q3D,av_t,ih]
theorem qdU {n0 o:Nat}:fromB n0 o=decide (n0≤o):=(fun x=>x) rfl
def frV:Option AV→AV
 | some v=>v
 | none=>.dead
theorem qdV {v:AV}:frV (some v)=v:=(fun x=>x) rfl
theorem qdW {p:Nat→Bool} {t:Nat}:frzF h p e t=frV (frz h p (e t)):=by
 simp only [frzF,frV]
 cases frz h p (e t) <;> rfl
theorem frz_t {p:Nat→Bool} {x:T}:frz h p (.t x)=some (.t x):=by simp [frz,frzCell,avoid]
theorem q68 {p:Nat→Bool} {o q i l k:Nat} {c:Bool} (ho:p o=false):frz h p (.ms o q i l k c)=some (.ms o q i l k c):=by simp [frz,frzCell,avoid,ho]
theorem qdX {p:Nat→Bool} {o q i k:Nat} (ho:p o=false):frz h p (.ref o q i k)=some (.ref o q i k):=by simp [frz,frzCell,avoid,ho]
theorem qdY {p:Nat→Bool} {o:Nat} (ho:p o=false):frz h p (.mp o)=some (.mp o):=by simp [frz,frzCell,avoid,ho]
def ixB (size k:Nat):Option T→Option AV
 | some v=>if k=size then some (.t (.ip v.cells)) else none
 | none=>none
theorem qdZ {size k:Nat} {v:T}:ixB size k (some v)=if k=size then some (.t (.ip v.cells)) else none:=(fun x=>x) rfl
theorem ix_sl {size k j:Nat} {c:Bool} {xs:List T}:iIdxS size (.t (.sl c k xs)) j=ixB size k (xs[j]?):=by
 simp only [iIdxS,ixB]
 cases xs[j]? <;> rfl
theorem ix_ms {size o q i l k j:Nat} {c:Bool}:iIdxS size (.ms o q i l k c) j=if j < l∧k=size then some (.ref o q (i+j) 0) else none:=(fun x=>x) rfl
theorem qe0 {len size j:Nat} {cs:List T}:iIdxA len size (.t (.ip cs)) j=if j < len then some (.t (.ip (cs.drop (j*size)))) else none:=(fun x=>x) rfl
theorem qe1 {len size j o q i off:Nat}:iIdxA len size (.ref o q i off) j=if j < len then some (.ref o q i (off+j*size)) else none:=(fun x=>x) rfl
def apR (size bytes:Nat) (o q i len k:Nat) (clip:Bool) (x:AV) (xs:List AV) (h:Heap):Option AObj→Option (AV × Heap)
 | some (.row k2 elems mr) =>
  if (len+(xs.length+1))*bytes≤roomB∧k=size∧k2=size∧mr≤q∧i+len≤q∧q≤elems.length then
   if clip then some (.ms h.length (len+(xs.length+1)) 0 (len+(xs.length+1)) size false,h++[.row size ((elems.drop i).take len++(x::xs)) 0])
   else if i=0∧len=q∧q=elems.length then some (.ms o (q+(xs.length+1)) 0 (len+(xs.length+1)) size false,h.set o (.row size (elems++(x::xs)) mr))
   else none
  else none
 | _=>none
def apS (size bytes:Nat) (s:AV) (h:Heap):Option (List AV)→Option (AV × Heap)
 | some []=>match s with
  | .t (.sc (.slice none 0 0))=>some (s,h)
  | .t (.sl true _ _)=>some (s,h)
  | .ms ..=>some (s,h)
  | _=>none
 | some (x::xs)=>match s with
  | .t (.sc (.slice none 0 0))=>if (xs.length+1)*bytes≤roomB then some (.ms h.length (xs.length+1) 0 (xs.length+1) size false,h++[.row size (x::xs) 0]) else none
  | .t (.sl true k ys)=>if (ys.length+(xs.length+1))*bytes≤roomB∧(k=size∨ys=[]) then some (.ms h.length (ys.length+(xs.length+1)) 0 (ys.length+(xs.length+1)) size false,h++[.row size (ys.map .t++(x::xs)) 0]) else none
  | .ms o q i len k clip=>apR size bytes o q i len k clip x xs h (h[o]?)
  | _=>none
 | none=>none
theorem ap_eq {size bytes:Nat} {s x:AV}:iAppend size bytes s x h=apS size bytes s h (elemsOf h size x):=by
 unfold iAppend apS
 cases elemsOf h size x with
 | none=>rfl
 | some l =>
  cases l with
  | nil =>
   cases s with
   | t x=>cases x with
    | sl c k ys=>cases c <;> rfl
    | sc v=>cases v with
     | slice a l c=>cases a with
      | none=>cases l with
       | zero=>cases c <;> rfl
       | succ _=>rfl
      | some _=>rfl
     | _=>rfl
    | _=>rfl
   | _=>rfl
  | cons y ys =>
   cases s with
   | t x=>cases x with
    | sl c k ys=>cases c <;> rfl
    | sc v=>cases v with
     | slice a l c=>cases a with
      | none=>cases l with
       | zero=>cases c <;> rfl
       | succ _=>rfl
      | some _=>rfl
     | _=>rfl
    | _=>rfl
   | _=>rfl
theorem qe2 {size bytes:Nat} {x:AV} {xs:List AV}:apS size bytes (.t (.sc (.slice none 0 0))) h (some (x::xs))=if (xs.length+1)*bytes≤roomB then some (.ms h.length (xs.length+1) 0 (xs.length+1) size false,h++[.row size (x::xs) 0]) else none:=(fun x=>x) rfl
theorem qe3 {size bytes:Nat}:apS size bytes (.t (.sc (.slice none 0 0))) h (some [])=some (.t (.sc (.slice none 0 0)),h):=(fun x=>x) rfl
theorem qe4 {size bytes k:Nat} {ys:List T} {x:AV} {xs:List AV}:apS size bytes (.t (.sl true k ys)) h (some (x::xs)) =
  if (ys.length+(xs.length+1))*bytes≤roomB∧(k=size∨ys=[]) then some (.ms h.length (ys.length+(xs.length+1)) 0 (ys.length+(xs.length+1)) size false,h++[.row size (ys.map .t++(x::xs)) 0]) else none:=(fun x=>x) rfl
theorem qe5 {size bytes k:Nat} {ys:List T}:apS size bytes (.t (.sl true k ys)) h (some [])=some (.t (.sl true k ys),h):=(fun x=>x) rfl
theorem q2C {size bytes o q i len k:Nat} {clip:Bool} {x:AV} {xs:List AV}:apS size bytes (.ms o q i len k clip) h (some (x::xs))=apR size bytes o q i len k clip x xs h (h[o]?):=(fun x=>x) rfl
theorem q69 {size bytes o q i len k:Nat} {clip:Bool}:apS size bytes (.ms o q i len k clip) h (some [])=some (.ms o q i len k clip,h):=(fun x=>x) rfl
theorem q24 {size bytes o q i len k k2 mr:Nat} {clip:Bool} {x:AV} {xs elems:List AV}:apR size bytes o q i len k clip x xs h (some (.row k2 elems mr)) =
  if (len+(xs.length+1))*bytes≤roomB∧k=size∧k2=size∧mr≤q∧i+len≤q∧q≤elems.length then
   if clip then some (.ms h.length (len+(xs.length+1)) 0 (len+(xs.length+1)) size false,h++[.row size ((elems.drop i).take len++(x::xs)) 0])
   else if i=0∧len=q∧q=elems.length then some (.ms o (q+(xs.length+1)) 0 (len+(xs.length+1)) size false,h.set o (.row size (elems++(x::xs)) mr))
   else none
  else none:=(fun x=>x) rfl
theorem el_sl {size k:Nat} {c:Bool} {xs:List T} (hk:k=size):elemsOf h size (.t (.sl c k xs))=some (xs.map .t):=by
 subst hk
 cases xs <;> simp [elemsOf]
theorem qe6 {size:Nat}:elemsOf h size (.t (.sc (.slice none 0 0)))=some []:=(fun x=>x) rfl
def elB (size q i len k:Nat):Option AObj→Option (List AV)
 | some (.row _ elems mr)=>if k=size∧mr≤q∧q≤elems.length∧i+len≤q then some ((elems.drop i).take len) else none
 | _=>none
theorem el_ms {size o q i len k:Nat} {c:Bool}:elemsOf h size (.ms o q i len k c)=elB size q i len k (h[o]?):=by
 simp only [elemsOf,elB]
 rcases h[o]? with _|⟨_|_|_|_⟩ <;> rfl
theorem q3E {size q i len k k2 mr:Nat} {elems:List AV}:elB size q i len k (some (.row k2 elems mr))=if k=size∧mr≤q∧q≤elems.length∧i+len≤q then some ((elems.drop i).take len) else none:=(fun x=>x) rfl
theorem qe7 {size:Nat}:iGrow size (.t (.sc (.slice none 0 0))) h=.val (.ms h.length 0 0 0 size false) (h++[.row size [] 0]):=(fun x=>x) rfl
theorem qe8 {size o q i l k:Nat} {c:Bool}:iGrow size (.ms o q i l k c) h=.val (.ms o q i l k c) h:=(fun x=>x) rfl
theorem qe9 {size k:Nat} {c:Bool} {xs:List T}:iGrow size (.t (.sl c k xs)) h=.val (.t (.sl c k xs)) h:=(fun x=>x) rfl
theorem bx_im {x:T}:iBox false (.t x) h=if storableAll (AV.t x).cells then some (.val (.t (.ip x.cells)) h) else none:=(fun x=>x) rfl
theorem qea {x:AV}:iBox true x h=if storableAll x.cells && !x.cells.isEmpty then some (.val (.ref h.length 1 0 0) (h++[.row x.cells.length [x] 0])) else none:=(fun x=>x) rfl
def bdB:Option (List AV)→Option AV
 | some cs=>some (mkAgg cs)
 | none=>none
theorem bd_eq {cs:List T} {parts:List (Nat × Nat × AV)}:iBuild cs parts=bdB (fillR (cs.map .t) parts):=by
 unfold iBuild bdB
 cases fillR (cs.map .t) parts <;> rfl
theorem qeb {cs:List AV}:bdB (some cs)=some (mkAgg cs):=(fun x=>x) rfl
theorem qec {cs:List AV}:fillR cs []=some cs:=(fun x=>x) rfl
theorem qed {cs:List AV} {off size:Nat} {v:AV} {r:List (Nat × Nat × AV)}:fillR cs ((off,size,v)::r)=if v.cells.length=size∧0 < size∧off+size≤cs.length then fillR (splice cs off v.cells) r else none:=(fun x=>x) rfl
def bsA (m:Bool) (size len:Nat) (elems:List AV) (h:Heap):Option (List T)→Option Res
 | some ts=>if m then some (.val (.ms h.length len 0 len size true) (h++[.row size elems 0])) else some (.val (.t (.sl true size ts)) h)
 | none=>some (.val (.ms h.length len 0 len size true) (h++[.row size elems 0]))
def bsB (m:Bool) (size len:Nat) (h:Heap):Option (List AV)→Option Res
 | some elems=>bsA m size len elems h (allT elems)
 | none=>none
theorem bs_eq {m:Bool} {size len:Nat} {z:T} {parts:List (Nat × AV)}:iBuildS m size z len parts h=bsB m size len h (fillElems size (List.replicate len (.t z)) parts):=by
 unfold iBuildS bsB
 cases fillElems size (List.replicate len (.t z)) parts with
 | none=>rfl
 | some es =>
  simp only [bsA]
  cases m <;> cases allT es <;> rfl
theorem qee {m:Bool} {size len:Nat} {elems:List AV}:bsB m size len h (some elems)=bsA m size len elems h (allT elems):=(fun x=>x) rfl
theorem qef {m:Bool} {size len:Nat} {elems:List AV} {ts:List T}:bsA m size len elems h (some ts)=if m then some (.val (.ms h.length len 0 len size true) (h++[.row size elems 0])) else some (.val (.t (.sl true size ts)) h):=(fun x=>x) rfl
theorem qeg {m:Bool} {size len:Nat} {elems:List AV}:bsA m size len elems h none=some (.val (.ms h.length len 0 len size true) (h++[.row size elems 0])):=(fun x=>x) rfl
theorem qeh {size:Nat} {es:List AV}:fillElems size es []=some es:=(fun x=>x) rfl
theorem qei {size i:Nat} {es:List AV} {v:AV} {r:List (Nat × AV)}:fillElems size es ((i,v)::r)=if v.cells.length=size∧0 < size∧i < es.length∧storableAll v.cells=true then fillElems size (es.set i v) r else none:=(fun x=>x) rfl
theorem qej {n:Nat} {a:AV}:List.replicate (n+1) a=a::List.replicate n a:=(fun x=>x) rfl
theorem qek {a:AV}:List.replicate 0 a=[]:=(fun x=>x) rfl
def fnB (g:FuncId) (a b:List AV):Option (List T)→Option (List T)→AV
 | some x,some y=>.t (.fn (.func g) x y)
 | _,_=>.fn (.func g) a b
theorem fn_eq {g:FuncId} {a b:List AV}:iFn g a b=fnB g a b (allT a) (allT b):=by
 unfold iFn fnB
 cases allT a <;> cases allT b <;> rfl
theorem qel {g:FuncId} {a b:List AV} {x y:List T}:fnB g a b (some x) (some y)=.t (.fn (.func g) x y):=(fun x=>x) rfl
theorem qem {agg:Bool} {k off:Nat} {x:AV}:iFld agg k off x=if x.isAgg then takeR agg k (x.cells.drop off) else none:=(fun x=>x) rfl
theorem qen {mx:Bool} {k k':IntKind} {a b:Int}:iMnx mx (.t (.sc (.int k a))) (.t (.sc (.int k' b)))=some (.t (.sc (.int k (if mx then (if a < b then b else a) else (if b < a then b else a))))):=(fun x=>x) rfl
theorem qeo {k:IntKind} {x:Int}:asNat (.t (.sc (.int k x)))=if 0≤x then some x.toNat else none:=(fun x=>x) rfl
theorem sl_lo {size k:Nat} {c:Bool} {xs:List T} {kk:IntKind} {x:Int}:iSlice size (.t (.sl c k xs)) (some (.t (.sc (.int kk x)))) none none =
  if 0≤x then (if x.toNat≤xs.length∧k=size then some (.t (.sl c k (xs.drop x.toNat))) else none) else none:=by
 by_cases hx:0≤x
 ·simp [iSlice,optNat,asNat,hx]
 ·simp [iSlice,optNat,asNat,hx]
theorem sl_hi {size k:Nat} {c:Bool} {xs:List T} {kk:IntKind} {x:Int}:iSlice size (.t (.sl c k xs)) none (some (.t (.sc (.int kk x)))) none =
  if 0≤x then (if x.toNat≤xs.length∧k=size then some (.t (.sl (c && decide (x.toNat=xs.length)) k (xs.take x.toNat))) else none) else none:=by
 by_cases hx:0≤x
 ·simp [iSlice,optNat,asNat,hx]
 ·simp [iSlice,optNat,asNat,hx]
theorem qep {size k:Nat} {c:Bool} {xs:List T} {kk kl:IntKind} {x y:Int}:iSlice size (.t (.sl c k xs)) (some (.t (.sc (.int kk x)))) (some (.t (.sc (.int kl y)))) none =
  if 0≤x∧0≤y then (if x.toNat≤y.toNat∧y.toNat≤xs.length∧k=size then some (.t (.sl (c && decide (y.toNat=xs.length)) k ((xs.take y.toNat).drop x.toNat))) else none) else none:=by
 by_cases hx:0≤x <;> by_cases hy:0≤y <;> simp [iSlice,optNat,asNat,hx,hy]
theorem qeq {size k:Nat} {c:Bool} {xs:List T} {kk kl:IntKind} {x y:Int}:iSlice size (.t (.sl c k xs)) none (some (.t (.sc (.int kk x)))) (some (.t (.sc (.int kl y)))) =
  if 0≤x∧0≤y then (if x.toNat≤xs.length∧k=size then (if y.toNat=x.toNat then some (.t (.sl true k (xs.take x.toNat))) else none) else none) else none:=by
 by_cases hx:0≤x <;> by_cases hy:0≤y <;> simp [iSlice,optNat,asNat,hx,hy]
def snT:Option (List T)→Option T
 | some ts=>some (.tup ts)
 | none=>none
def snA:Option (List T)→Option T
 | some ts=>some (.agg ts)
 | none=>none
def snS (clip:Bool) (k:Nat):Option (List T)→Option T
 | some ts=>some (.sl clip k ts)
 | none=>none
def snL (h:Heap) (d:Nat) (clip:Bool) (k:Nat):Option (List AV)→Option T
 | some es=>snS clip k (mapO (snap h allObj d) es)
 | none=>none
theorem qer {ts:List T}:snT (some ts)=some (.tup ts):=(fun x=>x) rfl
theorem qes {ts:List T}:snA (some ts)=some (.agg ts):=(fun x=>x) rfl
theorem qet {clip:Bool} {k:Nat} {ts:List T}:snS clip k (some ts)=some (.sl clip k ts):=(fun x=>x) rfl
theorem q3F {d:Nat} {clip:Bool} {k:Nat} {es:List AV}:snL h d clip k (some es)=snS clip k (mapO (snap h allObj d) es):=(fun x=>x) rfl
theorem qeu {d:Nat} {cs:List AV}:snap h allObj (d+1) (.tup cs)=snT (mapO (snap h allObj d) cs):=by
 simp only [snap,snT]
 cases mapO (snap h allObj d) cs <;> rfl
theorem qev {d:Nat} {cs:List AV}:snap h allObj (d+1) (.agg cs)=snA (mapO (snap h allObj d) cs):=by
 simp only [snap,snA]
 cases mapO (snap h allObj d) cs <;> rfl
theorem sn_ms {d o q i len k:Nat} {c:Bool}:snap h allObj (d+1) (.ms o q i len k c)=snL h d c k (elemsOf h k (.ms o q i len k c)):=by
 simp only [snap,snL,allObj,if_true]
 cases elemsOf h k (.ms o q i len k c) with
 | none=>rfl
 | some es =>
  simp only [snS]
  cases mapO (snap h allObj d) es <;> rfl
theorem sn_t {d:Nat} {x:T}:snap h allObj d (.t x)=some x:=by cases d <;> rfl
def consT (r:Option (List T)):Option T→Option (List T)
 | some x=>consO x r
 | none=>none
theorem q3G {x:T} {r:Option (List T)}:consT r (some x)=consO x r:=(fun x=>x) rfl
theorem q6a {d:Nat}:mapO (snap h allObj d) []=some []:=(fun x=>x) rfl
theorem q2D {d:Nat} {x:AV} {l:List AV}:mapO (snap h allObj d) (x::l)=consT (mapO (snap h allObj d) l) (snap h allObj d x):=by
 simp only [mapO]
 cases snap h allObj d x <;> cases mapO (snap h allObj d) l <;> rfl
theorem q3H {d:Nat} {xs:List T}:mapO (snap h allObj d) (xs.map .t)=some xs:=by
 induction xs with
 | nil=>rfl
 | cons x xs ih=>rw [List.map_cons,q2D,ih,sn_t,q3G,q3B]
theorem qew {r:T} {cs:List AV}:retQ r (.tup cs) h=(snap h allObj 20 (.tup cs)=some r):=(fun x=>x) rfl
theorem qex {r:T} {o q i len k:Nat} {c:Bool}:retQ r (.ms o q i len k c) h=(snap h allObj 20 (.ms o q i len k c)=some r):=(fun x=>x) rfl
theorem qey {r:T} {cs:List AV}:retQ r (.agg cs) h=(snap h allObj 20 (.agg cs)=some r):=(fun x=>x) rfl
def rowIs (size n:Nat):Option AObj→Prop
 | some (.row k es mr)=>k=size∧es.length=n∧mr≤n
 | _=>False
def rowEs:Option AObj→List AV
 | some (.row _ es _)=>es
 | _=>[]
def rowMr:Option AObj→Nat
 | some (.row _ _ mr)=>mr
 | _=>0
theorem qez {size n k mr:Nat} {es:List AV}:rowIs size n (some (.row k es mr))=(k=size∧es.length=n∧mr≤n):=(fun x=>x) rfl
theorem q3I {k mr:Nat} {es:List AV}:rowEs (some (.row k es mr))=es:=(fun x=>x) rfl
theorem q6b {k mr:Nat} {es:List AV}:rowMr (some (.row k es mr))=mr:=(fun x=>x) rfl
theorem q6c {size n:Nat} {x:Option AObj} (hr:rowIs size n x):∃ es mr,x=some (.row size es mr)∧es.length=n∧mr≤n:=by
 match x,hr with
 | some (.row k es mr),hr=>obtain ⟨rfl,h1,h2⟩:=hr; exact ⟨es,mr,rfl,h1,h2⟩
theorem qeA {size bytes o n:Nat} {xs:List AV} (ho:rowIs size n (h[o]?)) (hroom:(n+xs.length)*bytes≤roomB) :
  apS size bytes (.ms o n 0 n size false) h (some xs)=some (.ms o (n+xs.length) 0 (n+xs.length) size false,h.set o (.row size (rowEs (h[o]?)++xs) (rowMr (h[o]?)))):=by
 obtain ⟨es,mr,hr,h1,h2⟩:=q6c ho
 rw [hr,q3I,q6b]
 cases xs with
 | nil =>
  rw [q69]
  simp only [List.length_nil,Nat.add_zero,List.append_nil]
  obtain ⟨hlt,hge⟩:=List.getElem?_eq_some_iff.1 hr
  rw [← hge,List.set_getElem_self]
 | cons x xs =>
  simp only [List.length_cons] at hroom
  rw [q2C,hr,q24]
  simp [h1,h2,hroom]
theorem q2E {k o n:Nat} {c:Bool} (ho:rowIs k n (h[o]?)):elemsOf h k (.ms o n 0 n k c)=some (rowEs (h[o]?)):=by
 obtain ⟨es,mr,hr,h1,h2⟩:=q6c ho
 rw [el_ms,hr,q3E,q3I]
 simp [h1,h2]
 exact List.take_of_length_le (by omega)
def appT:Option (List T)→Option (List T)→Option (List T)
 | some x,some y=>some (x++y)
 | _,_=>none
theorem qeB {x y:List T}:appT (some x) (some y)=some (x++y):=(fun x=>x) rfl
theorem qeC {d:Nat} {a b:List AV}:mapO (snap h allObj d) (a++b)=appT (mapO (snap h allObj d) a) (mapO (snap h allObj d) b):=by
 induction a with
 | nil=>simp only [List.nil_append,q6a]; cases mapO (snap h allObj d) b <;> rfl
 | cons x a ih =>
  rw [List.cons_append,q2D,q2D,ih]
  cases snap h allObj d x <;> cases mapO (snap h allObj d) a <;> cases mapO (snap h allObj d) b <;> rfl
theorem qeD {p:Nat→Bool} {a b:List AV}:avoidAll p (a++b)=(avoidAll p a && avoidAll p b):=by
 induction a with
 | nil=>simp [q67]
 | cons x a ih=>simp only [List.cons_append,q3D,ih,Bool.and_assoc]
end Go.Abs
