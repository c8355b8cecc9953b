/- Part 24 of the proof of TreeNews. -/
import Derived.Test.YtbibdnlbpjnieaaGreatN23
set_option linter.all false
set_option maxRecDepth 100000
set_option maxHeartbeats 4000000
namespace Go.Proofs.YtbibdnlbpjnieaaGreat
structure Msg where
 r:Int
 c:Int
 s:Int
 p:Int
 g:Int
def mlt (x y:Msg):Prop:=x.r < y.r∨x.r=y.r∧(x.c < y.c∨x.c=y.c∧(x.s < y.s∨x.s=y.s∧x.p < y.p))
instance (x y:Msg):Decidable (mlt x y):=inferInstanceAs (Decidable (_∨_))
structure Top where
 r:Int
 c:Int
 via:Option Nat
 g:Int
def clmM (t:Top) (k:Int) (q:Nat):Msg:=⟨t.r,t.c,k,(q:Nat),t.g⟩
def roleM (h:Option Msg) (t:Top) (k:Int) (q:Nat):Int:=if t.via=some q then 1 else if h=none∨∃ m,h=some m∧mlt (clmM t k q) m then 2 else 3
def rcvM:Option Msg→Option Msg→Option Msg
 | o,none=>o
 | none,some h=>some h
 | some o,some h=>if (o.s=h.s∧o.p=h.p)∨¬ mlt o h then some h else some o
def tickM:Option Msg→Option Msg
 | none=>none
 | some m=>if 20 < m.g+1 then none else some ⟨m.r,m.c,m.s,m.p,m.g+1⟩
def lx3 (a b c a' b' c':Int):Prop:=a < a'∨a=a'∧(b < b'∨b=b'∧c < c')
instance (a b c a' b' c':Int):Decidable (lx3 a b c a' b' c'):=inferInstanceAs (Decidable (_∨_))
structure Net where
 N:Nat
 U:Nat→Prop
 fr:Nat→Nat
 to:Nat→Nat
 bk:Nat→Nat
 per:Nat→Int
 κ:Nat→Int
 F:Nat→Nat
 D:Nat→Int
 bst:Nat→Nat
structure NetOk (X:Net):Prop where
 fr:∀ q,X.U q→X.fr q < X.N
 to:∀ q,X.U q→X.to q < X.N
 bk:∀ q,X.U q→X.U (X.bk q)∧X.fr (X.bk q)=X.to q∧X.to (X.bk q)=X.fr q∧X.bk (X.bk q)=q∧X.per (X.bk q)=X.per q
 per:∀ q,X.U q→1≤X.per q
 ne:∀ q,X.U q→X.fr q≠X.to q
 inj:∀ i j,i < X.N→j < X.N→X.κ i=X.κ j→i=j
 same:∀ q,X.U q→X.F (X.fr q)=X.F (X.to q)
 le:∀ i,i < X.N→X.κ (X.F i)≤X.κ i∧X.F i < X.N
 edge:∀ q,X.U q→X.D (X.fr q)≤X.D (X.to q)+X.per q
 root:∀ i,i < X.N→X.F i=i→X.D i=0
 nn:∀ i,i < X.N→0≤X.D i
 bd:∀ i,i < X.N→X.D i≤1048576
 N:X.N≤12
 bst:∀ i,i < X.N→X.F i≠i→X.U (X.bst i)∧X.fr (X.bst i)=i∧X.D i=X.D (X.to (X.bst i))+X.per (X.bst i) ∧
  ∀ q,X.U q→X.fr q=i→q≠X.bst i→lx3 (X.D (X.to (X.bst i))+X.per (X.bst i)) (X.κ (X.to (X.bst i))) (X.bk (X.bst i):Nat) (X.D (X.to q)+X.per q) (X.κ (X.to q)) (X.bk q:Nat)
def leadsM (X:Net) (H:Nat→Option Msg) (q:Nat) (m:Msg):Prop:=H q=some m∧m.c+X.per q≤1048576∧m.r < X.κ (X.fr q)
def offM (X:Net) (q:Nat) (m:Msg):Msg:=⟨m.r,m.c+X.per q,m.s,m.p,m.g⟩
def TopOk (X:Net) (H:Nat→Option Msg) (n:Nat) (t:Top):Prop :=
 (t=⟨X.κ n,0,none,0⟩∧∀ q m,X.U q→X.fr q=n→¬ leadsM X H q m) ∨
 ∃ q m,X.U q∧X.fr q=n∧leadsM X H q m∧t=⟨m.r,m.c+X.per q,some q,m.g⟩∧∀ q' m',X.U q'→X.fr q'=n→leadsM X H q' m'→¬ mlt (offM X q' m') (offM X q m)
def sentM (h:Option Msg) (t:Top) (k:Int) (q:Nat):Option Msg:=if roleM h t k q=2 then some (clmM t k q) else none
structure Real (X:Net) (q:Nat) (m:Msg):Prop where
 s:m.s=X.κ (X.to q)
 p:m.p=(X.bk q:Nat)
 r:X.κ (X.F (X.to q))≤m.r
 c:m.r=X.κ (X.F (X.to q))→X.D (X.to q)≤m.c
section
variable (X:Net) (ok:NetOk X) (H:Nat→Nat→Option Msg) (t:Nat→Nat→Top)
 (hg:∀ T q m,X.U q→H T q=some m→0≤m.g∧m.g≤20)
 (ht:∀ T q,X.U q→TopOk X (H T) (X.fr q) (t T (X.fr q)))
 (hs:∀ T q,X.U q→H (T+1) q=tickM (rcvM (H T q) (sentM (H T (X.bk q)) (t T (X.to q)) (X.κ (X.to q)) (X.bk q))))
include ok in
include ok hg ht hs in
include ok hg ht hs in
include ok hg ht hs in
include ok hg ht hs in
include ok hg ht hs in
end
end Go.Proofs.YtbibdnlbpjnieaaGreat
namespace Go.Proofs.YtbibdnlbpjnieaaGreat
open Go Go.Abs
structure Bnd (h:Hd):Prop where
 a:0≤h.a∧h.a < 16
 b:0≤h.b∧h.b < 16
 c:0≤h.c∧h.c < 4194304
 d:0≤h.d∧h.d < 16
 e:0≤h.e∧h.e < 16
 f:0≤h.f∧h.f < 64
end Go.Proofs.YtbibdnlbpjnieaaGreat
namespace Go.Proofs.YtbibdnlbpjnieaaGreat
open Go Go.Abs
def asV (w:Nw) (r:Nat→Nat→Int) (n p:Nat):Int:=if dnA w (p / 2)=true then 0 else if stA w.t (toP w.t p).toNat=true then 2 else r n p
def asQ (w:Nw) (r:Nat→Nat→Int) (n:Nat) (s:List Int × Nat) (p:Nat):List Int × Nat:=(s.1.set p (asV w r n p),2*w.t.links.length)
def asN (w:Nw) (r:Nat→Nat→Int) (s:List Int × Nat) (n:Nat):List Int × Nat:=(portsL w.t n).foldl (asQ w r n) s
def asI (w:Nw) (s:List Int × Nat):Prop:=s.1.length=2*w.t.links.length∧s.2≤2*w.t.links.length
theorem asQ_ok {w:Nw} {r:Nat→Nat→Int} {n p:Nat} {s:List Int × Nat} (h:asI w s):asI w (asQ w r n s p):=⟨by simp [asQ,h.1],Nat.le_refl _⟩
theorem asN_ok {w:Nw} {r:Nat→Nat→Int} {n:Nat}:∀ {s:List Int × Nat},asI w s→asI w (asN w r s n):=by
 unfold asN
 intro s
 induction portsL w.t n generalizing s with
 | nil=>intro h; exact h
 | cons p l ih=>intro h; rw [List.foldl_cons]; exact ih (asQ_ok h)
section
variable (f:Fl) (w:Nw) (g:FuncId) (cap:List T) (r:Nat→Nat→Int)
noncomputable def lpAs (rf:Code × Code) (E:FEnv) (busy:Bool):AObj:=.loop 42 (lpEnv 61 (tidyF (some [2,3,5]) E)) [18,19] rf.1 rf.2 busy none
noncomputable def hpAs (w:Nw) (rf:Code × Code) (E:FEnv) (busy:Bool) (s:List Int × Nat):Heap :=
 [.row 1 ((s.1.map I).map .t) s.2,.row 1 [.ms 0 (2*w.t.links.length) 0 (2*w.t.links.length) 1 true] 1,lpAs rf E busy]
theorem lpAs_frz (rf:Code × Code) (E:FEnv) (hE:E 2=.t (.ip (nwC f w))∧E 3=.t (.ip [.fn (.func g) [] cap])∧E 5=.ref 1 1 0 0) (busy:Bool) (h:Heap) (q:Nat) (hq:3≤q):frzObj h (fromB q) (lpAs rf E busy)=some (lpAs rf E busy):=by
 have f1:decide (q≤1)=false:=decide_eq_false (by omega)
 rw [lpAs,frz_loop]
 simp only [go_sem,hE,f1]
theorem hpAs_frz (rf:Code × Code) (E:FEnv) (hE:E 2=.t (.ip (nwC f w))∧E 3=.t (.ip [.fn (.func g) [] cap])∧E 5=.ref 1 1 0 0) (busy:Bool) (s:List Int × Nat) (h:Heap) (q:Nat) (hq:3≤q):mapO (frzObj h (fromB q)) (hpAs w rf E busy s)=some (hpAs w rf E busy s):=by
 have f0:decide (q≤0)=false:=decide_eq_false (by omega)
 have a1:avoidAll (fromB q) [.ms 0 (2*w.t.links.length) 0 (2*w.t.links.length) 1 true]=true:=by simp [avoidAll,avoid,fromB]; omega
 simp only [hpAs,mapO,lpAs_frz f w g cap rf E hE busy h q hq,frz_mapA,frz_rowA a1]
variable (hok:okT w.t=true) (hbl:(w.bs.length:Int)=w.t.nodes) (hdl:w.down.length=w.t.links.length)
 (hgi:pol.inl g 42 33=false) (hgf:pol.fresh g 42 33=false)
 (hg:∀ n p,n < w.bs.length→stA w.t n=false→p∈trunkL w.t n→dnA w (p / 2)=false→ans Tryz.prog pol g (I (n:Nat)::I (p:Nat)::cap)=some (I (r n p)))
include hok hbl hdl hgi hgf hg
theorem assign_l0 (rf:Code × Code) (E:FEnv) (hE:E 2=.t (.ip (nwC f w))∧E 3=.t (.ip [.fn (.func g) [] cap])∧E 5=.ref 1 1 0 0) (x:List T) (n:Nat) (hn:n < w.bs.length) (hnn:stA w.t n=false)
  (s:List Int × Nat) (hs:asI w s) (dd nn:Nat) (hnn':200 < nn) (R:Xit→FEnv→Heap→Prop) (e:FEnv)
  (he:e 2=.t (.ip (nwC f w))∧e 3=.t (.ip [.fn (.func g) [] cap])∧e 5=.ref 1 1 0 0∧e 6=.t (I (n:Nat))∧e 22=.t (.sl false 1 (((portsL w.t n).map ofN).map I))∧e 23=.t (I ((portsL w.t n).length:Nat))∧e 24=.t (I 0))
  (hR:∀ e,(e 2=.t (.ip (nwC f w))∧e 3=.t (.ip [.fn (.func g) [] cap])∧e 5=.ref 1 1 0 0)→R (.exit 2) e (hpAs w rf E true (asN w r s n)++[.row 5 [.t (.agg x)] 1])) :
  wpIter 4 (some [2,3,5,6,22,23,24]) (wc Tryz.prog pol (ans Tryz.prog pol) (inl Tryz.prog pol (ans Tryz.prog pol) nn dd) nn 42 il42l0) R nn e (hpAs w rf E true s++[.row 5 [.t (.agg x)] 1]):=by
 obtain ⟨z1,z2,z3⟩:=okT_size hok
 have hpl:=ports_len w.t n
 refine loop_range (portsL w.t n) (fun p=>I (ofN p)) (step:=fun _ p s=>.go (asQ w r n s p)) (fin:=id)
  (St:=fun i s e h=>(e 2=.t (.ip (nwC f w))∧e 3=.t (.ip [.fn (.func g) [] cap])∧e 5=.ref 1 1 0 0∧e 6=.t (I (n:Nat))∧e 22=.t (.sl false 1 (((portsL w.t n).map ofN).map I))∧e 23=.t (I ((portsL w.t n).length:Nat))∧e 24=.t (I (i:Nat)))∧asI w s∧h=hpAs w rf E true s++[.row 5 [.t (.agg x)] 1])
  (Ex:=fun s x' e h=>(e 2=.t (.ip (nwC f w))∧e 3=.t (.ip [.fn (.func g) [] cap])∧e 5=.ref 1 1 0 0)∧x'=.exit 2∧h=hpAs w rf E true s++[.row 5 [.t (.agg x)] 1]) (s:=s) (by omega) ?_ ?_ (by omega) ⟨he,hs,rfl⟩ ?_
 ·intro i p ss e hp Y R hm hi hx hget hlt hw ⟨hs',hI,hhp⟩ hk
  subst hhp
  simp only [ctlK_go] at hk
  have hI2:=asQ_ok (r:=r) (n:=n) (p:=p) hI
  have hplt:p < 2*w.t.links.length:=ports_lt hm
  have hget':(((portsL w.t n).map ofN).map I)[i]? = some (I (ofN p)):=by simp [hx]
  have k2:=other_ans f w p hok hplt
  obtain ⟨g1,q1⟩:=st_get w.t z2 (toP_node hok hplt)
  have hj:p / 2 < w.down.length:=by omega
  have g2:(w.down.map B)[p / 2]? = some (B (dnA w (p / 2))):=by simp [dnA,hj]
  have v2:IntKind.i64.wrap (Int.tdiv (p:Nat) 2)=((p / 2:Nat):Int):=by rw [tdiv2]; exact wrap_i64 (by omega) (by omega)
  obtain ⟨s,mr⟩:=ss
  obtain ⟨hI3,hI4⟩:=hI
  dsimp only at hI3 hI4
  have hsl:((s.map I).map AV.t).length=2*w.t.links.length:=by simp [hI3]
  obtain ⟨y,hy⟩:∃ y,s[p]? = some y:=⟨s[p]'(by omega),by simp [show p < s.length by omega]⟩
  have gx:((s.map I).map AV.t)[p]? = some (.t (I y)):=map_get (enc:=I) hy
  have hset:=map_set (enc:=I) (l:=s) (i:=p) (x:=asV w r n p)
  have hsl2:2*w.t.links.length≤2*w.t.links.length:=Nat.le_refl _
  have fzl:∀ hx:Heap,frzObj hx (fromB 4) (lpAs rf E true)=some (lpAs rf E true):=fun hx=>lpAs_frz f w g cap rf E hE true hx 4 (by omega)
  simp only [asQ,hpAs,List.cons_append,List.nil_append] at hk ⊢
  rw [← hset] at hk
  simp only [asQ,asV] at hk hI2
  have hav:∀ (q:Nat→Bool) (y:T),avoidAll q (((s.map I).map AV.t).set p (.t y))=true:=fun q y=>by rw [← List.map_set,av_map]
  cases hdn:dnA w (p / 2) with
  | true =>
   rw [hdn] at g2
   rw [if_pos hdn] at hk hI2
   (repeat' first|simp only [il42l0_go,il42l0b,go_sem,hs',hget',hlt,hw,ofN,v2,g2,gx,hsl,hplt,hI4,hav,frz_mapA,fzl]|(with_reducible first|apply wD|apply wT|(apply wM; intro)|(apply wL; intro))|((with_reducible first|refine wA ?_ ?_|refine wE ?_); rfl))
   all_goals (refine hk _ _ ⟨?_,hI2,?_⟩ <;> simp only [go_sem,hs',hw])
  | false =>
   rw [hdn] at g2
   rw [if_neg (by rw [hdn]; simp)] at hk hI2
   cases hst:stA w.t (toP w.t p).toNat with
   | true =>
    rw [hst] at g1
    rw [if_pos hst] at hk hI2
    (repeat' first|simp only [il42l0_go,il42l0b,go_sem,hs',hget',hlt,hw,ofN,v2,g1,g2,q1,k2,gx,hsl,hplt,hI4,hav,frz_mapA,fzl]|(with_reducible first|apply wD|apply wT|(apply wM; intro)|(apply wL; intro))|((with_reducible first|refine wA ?_ ?_|refine wE ?_); rfl))
    all_goals (refine hk _ _ ⟨?_,hI2,?_⟩ <;> simp only [go_sem,hs',hw])
   | false =>
    rw [hst] at g1
    rw [if_neg (by rw [hst]; simp)] at hk hI2
    have k3:=hg n p hn hnn (List.mem_filter.2 ⟨hm,by rw [innP,hst]; rfl⟩) hdn
    (repeat' first|simp only [il42l0_go,il42l0b,go_sem,hs',hget',hlt,hw,ofN,v2,g1,g2,q1,k2,k3,hgi,hgf,gx,hsl,hplt,hI4,hav,frz_mapA,fzl]|(with_reducible first|apply wD|apply wT|(apply wM; intro)|(apply wL; intro))|((with_reducible first|refine wA ?_ ?_|refine wE ?_); rfl))
    all_goals (refine hk _ _ ⟨?_,hI2,?_⟩ <;> simp only [go_sem,hs',hw])
 ·intro s e h Y R hlt ⟨hs',_,hh⟩ hk
  subst hh
  (repeat' first|simp only [il42l0_go,il42l0b,go_sem,hs',hlt]|(with_reducible first|apply wD|apply wT|(apply wM; intro)|(apply wL; intro))|((with_reducible first|refine wA ?_ ?_|refine wE ?_); rfl))
  all_goals (refine hk _ _ _ ⟨?_,rfl,rfl⟩; simp only [go_sem,hs',id])
 ·intro x e h ⟨h1,h2,h3⟩
  have hf:∀ (l:List Nat) (i:Nat) (s:List Int × Nat),foldC (ρ:=List Int × Nat) (fun _ p s=>Ctl.go (asQ w r n s p)) id i l s=l.foldl (asQ w r n) s:=by
   intro l
   induction l with
   | nil=>intro i s; rfl
   | cons x l ih =>
    intro i s
    rw [foldC_go (s':=asQ w r n s x) rfl,ih,List.foldl_cons]
  rw [hf] at h3
  subst h2 h3
  exact hR _ h1
theorem assign_yield (rf:Code × Code) (hrf:rfOf Tryz.prog 42 0=rf) (E:FEnv) (hE:E 2=.t (.ip (nwC f w))∧E 3=.t (.ip [.fn (.func g) [] cap])∧E 5=.ref 1 1 0 0) (s:List Int × Nat) (hs:asI w s) (n:Nat) (x:List T) (hn:n < w.bs.length) (hst:stA w.t n=false) (dd nn:Nat) (hnn:200 < nn) (Q:AV→Heap→Prop)
  (hQ:∀ X',Q (.t (B true)) (hpAs w rf E false (asN w r s n)++[.row 5 [.t (.agg x)] 1]++X')) :
  oB (inl Tryz.prog pol (ans Tryz.prog pol) nn (dd+1) (.yl 2) [.t (I (n:Nat)),.t (.agg x)] (hpAs w rf E false s++[.row 5 [.t (.agg x)] 1])) Q:=by
 subst hrf
 have k1:=nports_ans f w n hok (by omega)
 have hq:=hQ []
 have key:([.row 1 ((s.1.map I).map .t) s.2,.row 1 [.ms 0 (2*w.t.links.length) 0 (2*w.t.links.length) 1 true] 1,.loop 42 (lpEnv 61 (tidyF (some [2,3,5]) E)) [18,19] (rfOf Tryz.prog 42 0).1 (rfOf Tryz.prog 42 0).2 true none,.row 5 [.t (.agg x)] 1]:Heap)
   = hpAs w (rfOf Tryz.prog 42 0) E true s++[.row 5 [.t (.agg x)] 1]:=rfl
 have hR:=fun (R:Xit→FEnv→Heap→Prop) (e:FEnv) he hR=>assign_l0 f w g cap r hok hbl hdl hgi hgf hg (rfOf Tryz.prog 42 0) E hE x n hn hst s hs dd nn hnn R e he hR
 rw [← key] at hR
 have hlen:(((portsL w.t n).map ofN).map I).length=(portsL w.t n).length:=by simp
 have hlen2:((portsL w.t n).map ofN).length=(portsL w.t n).length:=by simp
 generalize asN w r s n=s2 at *
 simp only [hpAs,lpAs,List.cons_append,List.nil_append] at hq hR ⊢
 with_reducible refine oB_yl (E:=tidyF (some [2,3,5]) E) rfl rfl rfl il42r0a_eq il42r0b_eq ?_
 (repeat' first|simp only [il42r0a,il42r0b,go_sem,hE,k1,hlen2]|(with_reducible first|apply wD|apply wT|(apply wM; intro)|(apply wL; intro))|((with_reducible first|refine wA ?_ ?_|refine wE ?_); rfl))
 with_reducible refine hR _ _ (by simp only [go_sem,hE,hlen2]) ?_
 intro e he
 (repeat' first|simp only [il42r0b,go_sem,he]|(with_reducible first|apply wD|apply wT|(apply wM; intro)|(apply wL; intro))|((with_reducible first|refine wA ?_ ?_|refine wE ?_); rfl))
 all_goals exact hq
end
end Go.Proofs.YtbibdnlbpjnieaaGreat
namespace Go.Proofs.YtbibdnlbpjnieaaGreat
open Go Go.Abs
def asL (w:Nw) (r:Nat→Nat→Int):List Int:=((List.range w.bs.length).foldl (stS w.t (asN w r)) (List.replicate (2*w.t.links.length) 0,0)).1
theorem assign_ans (f:Fl) (w:Nw) (g:FuncId) (cap:List T) (r:Nat→Nat→Int) (hok:okT w.t=true) (hbl:(w.bs.length:Int)=w.t.nodes) (hdl:w.down.length=w.t.links.length)
  (hgi:pol.inl g 42 33=false) (hgf:pol.fresh g 42 33=false)
  (hg:∀ n p,n < w.bs.length→stA w.t n=false→p∈trunkL w.t n→dnA w (p / 2)=false→ans Tryz.prog pol g (I (n:Nat)::I (p:Nat)::cap)=some (I (r n p))) :
  ans Tryz.prog pol 42 [nwT f w,.fn (.func g) [] cap]=some (.sl true 1 ((asL w r).map I)):=by
 obtain ⟨z1,z2,z3⟩:=okT_size hok
 have hroom:8*(2*w.t.links.length)≤roomB:=by rw [Nat.mul_comm]; exact ap_room (by omega) (by omega)
 have hbig:2*w.t.links.length≤9223372036854775807:=by omega
 have v1:IntKind.i64.wrap (2*(w.t.links.length:Nat))=((2*w.t.links.length:Nat):Int):=wrap_i64 (by omega) (by omega)
 have hb100:w.bs.length≤100:=by omega
 have hcf:(T.fn (Fn.func g) [] cap).cells=[T.fn (Fn.func g) [] cap]:=rfl
 obtain ⟨nn,h2000⟩:∃ nn,2000 < nn:=⟨2001,by omega⟩
 have hn2:200 < nn:=by omega
 refine ans_go nn 5 il42_eq (Nat.le_of_ble_eq_true rfl) ?_
 simp only [il42c]
 generalize hrf:rfOf Tryz.prog 42 0=rf
 (repeat' first|simp only [List.cons_append,List.nil_append,go_sem,hroom,hbig,v1]|(with_reducible first|apply wD|apply wT|(apply wM; intro)|(apply wL; intro))|((with_reducible first|refine wA ?_ ?_|refine wE ?_); rfl)|((with_reducible refine oB_inl il31_eq ?_ ?_); exact Nat.le_of_ble_eq_true rfl; simp only [il31c]))
 have hrep:List.replicate (2*w.t.links.length) (AV.t (T.sc (Value.int IntKind.i64 0)))=((List.replicate (2*w.t.links.length) (0:Int)).map I).map .t:=by simp
 have key:∀ E:FEnv,([.row 1 (((List.replicate (2*w.t.links.length) (0:Int)).map I).map .t) 0,.row 1 [.ms 0 (2*w.t.links.length) 0 (2*w.t.links.length) 1 true] 1,.loop 42 (lpEnv 61 (tidyF (some [2,3,5]) E)) [18,19] rf.1 rf.2 false none]:Heap)=hpAs w rf E false (List.replicate (2*w.t.links.length) 0,0):=fun E=>rfl
 rw [hrep,key]
 have h23:2 < 3:=by omega
 have hI0:asI w (List.replicate (2*w.t.links.length) 0,0):=⟨by simp,Nat.zero_le _⟩
 let σ:={ s:List Int × Nat // asI w s }
 let nx:σ→Nat→σ:=fun s n=>⟨asN w r s.1 n,asN_ok s.2⟩
 have hstv:∀ (s:σ) n,(stS w.t nx s n).1=stS w.t (asN w r) s.1 n:=fun s n=>by
  unfold stS
  by_cases q:stA w.t n=true
  ·rw [if_pos q,if_pos q]
  ·rw [if_neg q,if_neg q]
 have hfv:∀ (s:σ) k,((List.range k).foldl (stS w.t nx) s).1=(List.range k).foldl (stS w.t (asN w r)) s.1:=by
  intro s k
  induction k with
  | zero=>rfl
  | succ k ih =>
   rw [List.range_succ,List.foldl_append,List.foldl_append,List.foldl_cons,List.foldl_cons,List.foldl_nil,List.foldl_nil,hstv,ih]
 have hs0:∀ E:FEnv,hpAs w rf E false (List.replicate (2*w.t.links.length) 0,0)=(fun s:σ=>hpAs w rf E false s.1) ⟨(List.replicate (2*w.t.links.length) 0,0),hI0⟩:=fun E=>rfl
 rw [hs0]
 have hcl:asL w r=((List.range w.bs.length).foldl (stS w.t (asN w r)) (List.replicate (2*w.t.links.length) 0,0)).1:=rfl
 with_reducible refine @all_iterT σ (fun s:σ=>hpAs w rf _ false s.1) 3 (fun s=>rfl) nx 4 nn 2 (fun n s=>True) w (fun _ _ _ _=>trivial) ?_ h23 f z2 hbl hb100 ?_ ⟨(List.replicate (2*w.t.links.length) 0,0),hI0⟩ trivial _ hn2 ?_
 ·intro s h q hq
  exact hpAs_frz f w g cap rf _ (by simp only [go_sem,hcf]) false s.1 h q hq
 ·intro s n x Q hx hs _ hQ
  have hnl:n < w.bs.length:=(List.getElem?_eq_some_iff.1 hx).1
  have hQ':∀ X',Q (.t (B true)) (hpAs w rf _ false (asN w r s.1 n)++[.row 5 [.t (.agg (bxC x))] 1]++X'):=hQ
  with_reducible exact @assign_yield f w g cap r hok hbl hdl hgi hgf hg rf hrf _ (by simp only [go_sem,hcf]) s.1 s.2 n (bxC x) hnl hs 3 nn hn2 Q hQ'
 ·intro v
  have hfin:=((List.range w.bs.length).foldl (stS w.t nx) ⟨(List.replicate (2*w.t.links.length) 0,0),hI0⟩).2
  change rfEnd _ _ _ v (hpAs w rf _ false ((List.range w.bs.length).foldl (stS w.t nx) ⟨(List.replicate (2*w.t.links.length) 0,0),hI0⟩).1)
  rw [hfv] at hfin ⊢
  rw [hcl]
  generalize (List.range w.bs.length).foldl (stS w.t (asN w r)) (List.replicate (2*w.t.links.length) 0,0)=s at *
  obtain ⟨hf1,hf2⟩:=hfin
  have hl4:((s.1.map I).map AV.t).length=2*w.t.links.length:=by simp [hf1]
  simp only [hpAs,lpAs,List.cons_append,List.nil_append]
  (repeat' first|simp only [il42c,go_sem,frz_mapA,hl4,hf2]|(with_reducible first|apply wD|apply wT|(apply wM; intro)|(apply wL; intro))|((with_reducible first|refine wA ?_ ?_|refine wE ?_); rfl))
end Go.Proofs.YtbibdnlbpjnieaaGreat
namespace Go.Proofs.YtbibdnlbpjnieaaGreat
open Go Go.Abs
def encR:Option (List Int)→T
 | none=>.sc (.slice none 0 0)
 | some l=>.sl true 1 (l.map I)
def rolesB (b:Br):List Int:=(List.range b.ports.length).map (roleF b (opF b).t)
def rolesAt (w:Nw) (n:Nat):Option (List Int):=if stA w.t n=true then none else some (rolesB (bxA w n).b)
def roleW (w:Nw) (n p:Nat):Int:=roleF (bxA w n).b (opF (bxA w n).b).t (idxL (ofN p) 0 ((trunkL w.t n).map ofN)).toNat
theorem Roles1_ans (f:Fl) (w:Nw) (h:NwOk w) (n p:Nat) (hn:n < w.bs.length) (hst:stA w.t n=false) (hp:p∈trunkL w.t n) :
  ans Tryz.prog pol 43 [I (n:Nat),I (p:Nat),.ip [.sl true 1 (((List.range w.bs.length).map (rolesAt w)).map encR)],.ip (nwC f w)]=some (I (roleW w n p)):=by
 obtain ⟨x,hx⟩:∃ x,w.bs[n]? = some x:=⟨w.bs[n]'hn,by simp [hn]⟩
 have hbx:bxA w n=x:=by simp [bxA,hx]
 obtain ⟨xz,xv⟩:=h.vb.2 n x hx hst
 obtain ⟨j,h1,h2,h3⟩:=idxL_spec (v:=ofN p) (i:=0) (List.mem_map_of_mem (f:=ofN) hp)
 simp only [List.length_map] at h1
 have hrw:roleW w n p=roleF x.b (opF x.b).t j:=by
  rw [roleW,h3,hbx]
  congr 1
  omega
 have gr:(((List.range w.bs.length).map (rolesAt w)).map encR)[n]? = some (.sl true 1 ((rolesB x.b).map I)):=by
  rw [List.getElem?_map,List.getElem?_map,List.getElem?_range hn]
  simp only [Option.map_some,rolesAt,hst,Bool.false_eq_true,if_false,hbx,encR]
 have gb:(w.bs.map encX)[n]? = some (encX x):=by simp [hx]
 have hj:j < x.b.ports.length:=by rw [xv.ports]; simpa using h1
 have gj:((rolesB x.b).map I)[j]? = some (I (roleF x.b (opF x.b).t j)):=by simp [rolesB,hj]
 have htl:=trunk_24 h.t (n:Nat)
 rw [hrw]
 generalize roleF x.b (opF x.b).t j=R at *
 generalize rolesB x.b=RB at *
 obtain ⟨z,c1,c2,c3,b⟩:=x
 dsimp only at xz xv hj
 subst xz
 have k1:=indexI_ans c1 b.ports (ofN p) (by rw [xv.ports]; simp; omega)
 have hidx:idxL (ofN p) 0 b.ports=((j:Nat):Int):=by rw [xv.ports,h3]; congr 1; omega
 rw [hidx] at k1
 have hcell:(encX ⟨false,c1,c2,c3,b⟩).cells=brC c1 c2 c3 b:=rfl
 have hrl:(T.sl true 1 (RB.map I)).cells=[T.sl true 1 (RB.map I)]:=rfl
 refine ans_go 1 1 il43_eq (Nat.le_of_ble_eq_true rfl) ?_
 simp only [ofN] at k1
 (repeat' first|simp only [il43c,go_sem,k1,gr,gb,gj,hcell,hrl]|(with_reducible first|apply wD|apply wT|(apply wM; intro)|(apply wL; intro))|((with_reducible first|refine wA ?_ ?_|refine wE ?_); rfl))
end Go.Proofs.YtbibdnlbpjnieaaGreat
namespace Go.Proofs.YtbibdnlbpjnieaaGreat
open Go Go.Abs
noncomputable def lpRo (rf:Code × Code) (E:FEnv):AObj:=.loop 16 (lpEnv 40 (tidyF (some [2,3,5]) E)) [22,23] rf.1 rf.2 false none
noncomputable def hpRo (w:Nw) (rf:Code × Code) (E:FEnv) (s:List (Option (List Int)) × Nat):Heap :=
 [.row 1 [.t (.sc (.slice none 0 0))] 0,.row 1 [.t (I 0)] 0,.row 1 ((s.1.map encR).map .t) s.2,.row 1 [.ms 2 w.bs.length 0 w.bs.length 1 true] 1,lpRo rf E]
theorem hpRo_frz (w:Nw) (rf:Code × Code) (E:FEnv) (hE:E 2=.ref 0 1 0 0∧E 3=.ref 1 1 0 0∧E 5=.ref 3 1 0 0) (s:List (Option (List Int)) × Nat) (h:Heap) (q:Nat) (hq:5≤q):mapO (frzObj h (fromB q)) (hpRo w rf E s)=some (hpRo w rf E s):=by
 have f0:decide (q≤0)=false:=decide_eq_false (by omega)
 have f1:decide (q≤1)=false:=decide_eq_false (by omega)
 have f3:decide (q≤3)=false:=decide_eq_false (by omega)
 have h1:frzObj h (fromB q) (lpRo rf E)=some (lpRo rf E):=by
  rw [lpRo,frz_loop]
  simp only [go_sem,hE,f0,f1,f3]
 have a1:avoidAll (fromB q) [.ms 2 w.bs.length 0 w.bs.length 1 true]=true:=by simp [avoidAll,avoid,fromB]; omega
 have a4:∀ x:T,avoidAll (fromB q) [.t x]=true:=fun x=>by simp [avoidAll,avoid]
 simp only [hpRo,mapO,h1,frz_mapA,frz_rowA a1,frz_rowA (a4 _)]
theorem roles_yield (rf:Code × Code) (hrf:rfOf Tryz.prog 16 0=rf) (w:Nw) (h:NwOk w) (E:FEnv) (hE:E 2=.ref 0 1 0 0∧E 3=.ref 1 1 0 0∧E 5=.ref 3 1 0 0) (s:List (Option (List Int)) × Nat) (hsl:s.1.length=w.bs.length) (hmr:s.2≤w.bs.length) (n:Nat) (x:Bx) (hx:w.bs[n]? = some x) (hst:stA w.t n=false) (dd nn:Nat) (hn:200 < nn) (Q:AV→Heap→Prop)
  (hQ:∀ X',Q (.t (B true)) (hpRo w rf E (s.1.set n (some (rolesB x.b)),w.bs.length)++[.row 5 [.t (.agg (bxC x))] 1]++X')) :
  oB (inl Tryz.prog pol (ans Tryz.prog pol) nn (dd+1) (.yl 4) [.t (I (n:Nat)),.t (.agg (bxC x))] (hpRo w rf E s++[.row 5 [.t (.agg (bxC x))] 1])) Q:=by
 subst hrf
 obtain ⟨xz,xv⟩:=h.vb.2 n x hx hst
 have hnl:n < w.bs.length:=(List.getElem?_eq_some_iff.1 hx).1
 obtain ⟨z,c1,c2,c3,b⟩:=x
 dsimp only at xz xv hQ
 subst xz
 have hbc:bxC ⟨false,c1,c2,c3,b⟩=brC c1 c2 c3 b:=rfl
 rw [hbc] at hQ ⊢
 have k1:ans Tryz.prog pol 41 [brT c1 c2 c3 b]=some (.tup [.sl true 1 ((rolesB b).map I),I 0]):=Roles_ok c1 c2 c3 b xv.ok
 have hb5:(T.agg (brC c1 c2 c3 b)).cells=brC c1 c2 c3 b:=rfl
 obtain ⟨y,hy⟩:∃ y,s.1[n]? = some y:=⟨s.1[n]'(by omega),by simp [show n < s.1.length by omega]⟩
 have gx:((s.1.map encR).map AV.t)[n]? = some (.t (encR y)):=map_get (enc:=encR) hy
 have hset:=map_set (enc:=encR) (l:=s.1) (i:=n) (x:=some (rolesB b))
 have hex:encR (some (rolesB b))=.sl true 1 ((rolesB b).map I):=rfl
 rw [hex] at hset
 have hslE:((s.1.map encR).map AV.t).length=w.bs.length:=by simp [hsl]
 have hyc:(encR y).cells=[encR y]:=by cases y <;> rfl
 have hya:(AV.t (encR y)).isAgg=false:=by cases y <;> rfl
 have hyc2:(AV.t (encR y)).cells=[.t (encR y)]:=by cases y <;> rfl
 have hav:∀ (q:Nat→Bool) (y:T),avoidAll q (((s.1.map encR).map AV.t).set n (.t y))=true:=fun q y=>by rw [← List.map_set,av_map]
 have hq:=hQ
 simp only [hpRo,lpRo,List.cons_append,List.nil_append] at hq ⊢
 rw [← hset] at hq
 generalize rolesB b=RB at *
 generalize encR y=Y at *
 with_reducible refine oB_yl (E:=tidyF (some [2,3,5]) E) rfl rfl rfl il16r0a_eq il16r0b_eq ?_
 (repeat' first|simp only [il16r0a,il16r0b,go_sem,hE,k1,hb5,gx,hslE,hyc,hya,hyc2,hnl,hmr,hav]|(with_reducible first|apply wD|apply wT|(apply wM; intro)|(apply wL; intro))|((with_reducible first|refine wA ?_ ?_|refine wE ?_); rfl))
 all_goals exact hq _
end Go.Proofs.YtbibdnlbpjnieaaGreat
namespace Go.Proofs.YtbibdnlbpjnieaaGreat
open Go Go.Abs
theorem snap_msr {α:Type} {enc:α→T} {h:Heap} {p:Nat→Bool} {o k mr n d:Nat} {c:Bool} {l:List α} (hp:p o=true) (hr:h[o]? = some (.row k ((l.map enc).map .t) mr)) (hm:mr≤n) (hn:n=l.length) :
  snap h p (d+2) (.ms o n 0 n k c)=some (.sl c k (l.map enc)):=by
 subst hn
 have he:elemsOf h k (.ms o l.length 0 l.length k c)=some ((l.map enc).map .t):=by
  rw [el_full (by rw [hr]; exact ⟨rfl,by simp,hm⟩),hr]; rfl
 simp only [snap,hp,Bool.not_true,Bool.false_eq_true,if_false,if_true,he,mapO_snap]
theorem RolesT_ok (f:Fl) (w:Nw) (hz:zOk w) (hok:okN w=true):ans Tryz.prog pol 16 [nwT f w]=some (.tup [.sl true 1 ((asL w (roleW w)).map I),I 0]):=by
 have hO:=okN_ok hok hz
 obtain ⟨z1,z2,z3⟩:=okT_size hO.t
 have hpl:=rankL_len hO.rank
 have hbl:=hO.bl
 have k1:=CheckN_ans f w hz (by omega) (by omega)
 rw [if_pos hok] at k1
 have hroom:24*w.bs.length≤roomB:=by rw [Nat.mul_comm]; exact ap_room (by omega) (by omega)
 have hbig:w.bs.length≤9223372036854775807:=by omega
 have hb100:w.bs.length≤100:=by omega
 have k2:=assign_ans f w 43 [.ip [.sl true 1 (((List.range w.bs.length).map (rolesAt w)).map encR)],.ip (nwC f w)] (roleW w) hO.t hbl hO.dl rfl rfl (fun n p hn hs hp _=>Roles1_ans f w hO n p hn hs hp)
 obtain ⟨nn,h2000⟩:∃ nn,2000 < nn:=⟨2001,by omega⟩
 have hn2:200 < nn:=by omega
 refine ans_go nn 5 il16_eq (Nat.le_of_ble_eq_true rfl) ?_
 simp only [il16c]
 generalize hrf:rfOf Tryz.prog 16 0=rf
 (repeat' first|simp only [List.cons_append,List.nil_append,go_sem,k1,hroom,hbig]|(with_reducible first|apply wD|apply wT|(apply wM; intro)|(apply wL; intro))|((with_reducible first|refine wA ?_ ?_|refine wE ?_); rfl)|((with_reducible refine oB_inl il31_eq ?_ ?_); exact Nat.le_of_ble_eq_true rfl; simp only [il31c]))
 have hrep:List.replicate w.bs.length (AV.t (T.sc (Value.slice none 0 0)))=((List.replicate w.bs.length (none:Option (List Int))).map encR).map .t:=by simp [encR]
 have key:∀ E:FEnv,([.row 1 [.t (.sc (.slice none 0 0))] 0,.row 1 [.t (I 0)] 0,.row 1 (((List.replicate w.bs.length (none:Option (List Int))).map encR).map .t) 0,.row 1 [.ms 2 w.bs.length 0 w.bs.length 1 true] 1,.loop 16 (lpEnv 40 (tidyF (some [2,3,5]) E)) [22,23] rf.1 rf.2 false none]:Heap)=hpRo w rf E (List.replicate w.bs.length none,0):=fun E=>rfl
 rw [hrep,key]
 have h45:4 < 5:=by omega
 have hI0:(List.replicate w.bs.length none,0).1=fillL (rolesAt w) none w.bs.length 0∧(List.replicate w.bs.length (none:Option (List Int)),0).2≤w.bs.length:=⟨(fillL_zero _ _ _).symm,Nat.zero_le _⟩
 have hstep:∀ (n:Nat) (s:List (Option (List Int)) × Nat),n < w.bs.length→(s.1=fillL (rolesAt w) none w.bs.length n∧s.2≤w.bs.length)→((stS w.t (fun (s:List (Option (List Int)) × Nat) n=>(s.1.set n (some (rolesB (bxA w n).b)),w.bs.length)) s n).1=fillL (rolesAt w) none w.bs.length (n+1)∧(stS w.t (fun (s:List (Option (List Int)) × Nat) n=>(s.1.set n (some (rolesB (bxA w n).b)),w.bs.length)) s n).2≤w.bs.length):=by
  intro n s hnb hI
  unfold stS
  by_cases hs:stA w.t n=true
  ·rw [if_pos hs,fillL_same hnb (by rw [rolesAt,if_pos hs])]
   exact hI
  ·rw [if_neg hs]
   refine ⟨?_,Nat.le_refl _⟩
   show s.1.set n _=_
   rw [hI.1]
   exact fillL_set hnb (by rw [rolesAt,if_neg hs])
 with_reducible refine @all_iterT (List (Option (List Int)) × Nat) (fun s=>hpRo w rf _ s) 5 (fun s=>rfl) (fun s n=>(s.1.set n (some (rolesB (bxA w n).b)),w.bs.length)) 4 nn 4 (fun n s=>s.1=fillL (rolesAt w) none w.bs.length n∧s.2≤w.bs.length) w hstep ?_ h45 f z2 hbl hb100 ?_ (List.replicate w.bs.length none,0) hI0 _ hn2 ?_
 ·intro s h q hq
  exact hpRo_frz w rf _ (by simp only [go_sem]) s h q hq
 ·intro s n x Q hx hs hI hQ
  have hnl:n < w.bs.length:=(List.getElem?_eq_some_iff.1 hx).1
  have hbx:bxA w n=x:=by simp [bxA,hx]
  have hI:s.1=fillL (rolesAt w) none w.bs.length n∧s.2≤w.bs.length:=hI
  have hQ':∀ X',Q (.t (B true)) (hpRo w rf _ (s.1.set n (some (rolesB (bxA w n).b)),w.bs.length)++[.row 5 [.t (.agg (bxC x))] 1]++X'):=hQ
  rw [hbx] at hQ'
  have hl:s.1.length=w.bs.length:=by rw [hI.1]; exact fillL_len _ _ (Nat.le_of_lt hnl)
  with_reducible exact @roles_yield rf hrf w hO _ (by simp only [go_sem]) s hl hI.2 n x hx hs 3 nn hn2 Q hQ'
 ·intro v
  have hfin:∀ k,k≤w.bs.length→((List.range k).foldl (stS w.t (fun (s:List (Option (List Int)) × Nat) n=>(s.1.set n (some (rolesB (bxA w n).b)),w.bs.length))) (List.replicate w.bs.length none,0)).1=fillL (rolesAt w) none w.bs.length k∧((List.range k).foldl (stS w.t (fun (s:List (Option (List Int)) × Nat) n=>(s.1.set n (some (rolesB (bxA w n).b)),w.bs.length))) (List.replicate w.bs.length none,0)).2≤w.bs.length:=by
   intro k
   induction k with
   | zero=>intro _; exact hI0
   | succ k ih =>
    intro hk
    rw [List.range_succ,List.foldl_append,List.foldl_cons,List.foldl_nil]
    exact hstep k _ (by omega) (ih (by omega))
  obtain ⟨hf1,hf2⟩:=hfin w.bs.length (Nat.le_refl _)
  generalize (List.range w.bs.length).foldl _ _=s at *
  rw [fillL_all] at hf1
  change rfEnd _ _ _ v (hpRo w rf _ s)
  rw [← hf1] at k2
  have hl4:s.1.length=w.bs.length:=by rw [hf1]; simp
  have fz1:∀ (hx:Heap) (p:Nat→Bool),p 2=true→hx[2]? = some (.row 1 ((s.1.map encR).map AV.t) s.2)→frz hx p (.ms 2 w.bs.length 0 w.bs.length 1 true)=some (.t (.sl true 1 (s.1.map encR))):=fun hx p hp hg=>frz_msr (l:=s.1) hp hg hf2 hl4.symm
  have sn1:∀ (hx:Heap) (p:Nat→Bool),p 2=true→hx[2]? = some (.row 1 ((s.1.map encR).map .t) s.2)→snap hx p 19 (.ms 2 w.bs.length 0 w.bs.length 1 true)=some (.sl true 1 (s.1.map encR)):=fun hx p hp hg=>snap_msr (l:=s.1) (d:=17) hp hg hf2 hl4.symm
  simp only [hpRo,lpRo,List.cons_append,List.nil_append]
  (repeat' first|simp only [il16c,go_sem,frz_mapA,k2,fz1,sn1]|(with_reducible first|apply wD|apply wT|(apply wM; intro)|(apply wL; intro))|((with_reducible first|refine wA ?_ ?_|refine wE ?_); rfl))
end Go.Proofs.YtbibdnlbpjnieaaGreat
namespace Go.Proofs.YtbibdnlbpjnieaaGreat
open Go Go.Abs
def upA (w:Nw) (i:Nat):Bool:=!dnA w i && (!stA w.t (lnk w.t i).a.toNat && !stA w.t (lnk w.t i).b.toNat)
def upS {σ:Type} (w:Nw) (nx:σ→Nat→σ) (s:σ) (i:Nat):σ:=if upA w i=true then nx s i else s
theorem up_ans (f:Fl) (w:Nw):ans Tryz.prog pol 122 [nwT f w]=some (.fn (.func 141) [] [.ip (nwC f w)]):=by
 refine ans_go 1 1 il122_eq (Nat.le_of_ble_eq_true rfl) ?_
 (repeat' first|simp only [il122c,go_sem]|(with_reducible first|apply wD|apply wT|(apply wM; intro)|(apply wL; intro))|((with_reducible first|refine wA ?_ ?_|refine wE ?_); rfl))
section
variable {σ:Type} (hp:σ→Heap) (N:Nat) (hN:∀ s,(hp s).length=N) (nx:σ→Nat→σ) (dd nn o:Nat) (w:Nw)
 (hfz:∀ (s:σ) (h:Heap) (q:Nat),N≤q→mapO (frzObj h (fromB q)) (hp s)=some (hp s)) (hoN:o < N)
include hN hfz hoN
theorem up_iter (f:Fl) (hok:okT w.t=true) (hdl:w.down.length=w.t.links.length)
  (hy:∀ (s:σ) (n:Nat) (Q:AV→Heap→Prop),n < w.t.links.length→upA w n=true→(∀ X',Q (.t (B true)) (hp (nx s n)++[.row 4 [.t (lkT (lnk w.t n))] 1]++X'))→oB (inl Tryz.prog pol (ans Tryz.prog pol) nn dd (.yl o) [.t (lkT (lnk w.t n))] (hp s++[.row 4 [.t (lkT (lnk w.t n))] 1])) Q)
  (s:σ) (Q:AV→Heap→Prop) (hn:200 < nn) (hQ:∀ v,Q v (hp ((List.range w.t.links.length).foldl (upS w nx) s))) :
  oB (inl Tryz.prog pol (ans Tryz.prog pol) nn (dd+1) (.fn 141) [.yl o,.t (.ip (nwC f w))] (hp s)) Q:=by
 obtain ⟨z1,z2,z3⟩:=okT_size hok
 with_reducible refine oB_inl il141_eq ?_ ?_
 ·exact Nat.le_of_ble_eq_true rfl
 have g1:∀ (s:σ) (x:AObj) (Y:Heap),(hp s++(x::Y))[N]? = some x:=fun s x Y=>by rw [List.getElem?_append_right (by rw [hN]; omega),hN,Nat.sub_self]; rfl
 have g4:∀ (s:σ) (x y:AObj),(hp s++[x]).set N y=hp s++[y]:=fun s x y=>by
  show List.set (hp s++[x]:List AObj) N y=_
  rw [List.set_append]
  simp [hN]
 have g5:∀ (s:σ) (Y:Heap),(hp s++Y).take N=hp s:=fun s Y=>by rw [List.take_append,hN,List.take_of_length_le (by rw [hN]; omega)]; simp
 have g6:∀ (s:σ) (hx:Heap),mapO (frzObj hx (fromB N)) (hp s)=some (hp s):=fun s hx=>hfz s hx N (Nat.le_refl _)
 have hlen:∀ (s:σ) (Y:Heap),(hp s++Y).length=N+Y.length:=fun s Y=>by simp [hN]
 have f2:decide (N≤o)=false:=decide_eq_false (by omega)
 have f4:∀ k,N < N+(k+1):=fun k=>by omega
 have f5:N < N+1:=by omega
 (repeat' first|simp only [il141c,go_sem,hN]|(with_reducible first|apply wD|apply wT|(apply wM; intro)|(apply wL; intro))|((with_reducible first|refine wA ?_ ?_|refine wE ?_); rfl))
 refine loop_range w.t.links encK (step:=fun n _ s=>.go (upS w nx s n)) (fin:=id)
  (St:=fun n s e h=>(e 0=.yl o∧e 1=.t (.ip (nwC f w))∧e 8=.t (.sl f.lk 4 (w.t.links.map encK))∧e 9=.t (I (w.t.links.length:Nat))∧e 10=.t (I (n:Nat)))∧h=hp s)
  (Ex:=fun s x e h=>x=.exit 0∧h=hp s) (s:=s) (by omega) ?_ ?_ (by omega) ?_ ?_
 ·intro n x s e h Y R hm hi hx hget hlt hw ⟨hs,hh⟩ hk
  subst hh
  simp only [ctlK_go] at hk
  have hlx:lnk w.t n=x:=by simp [lnk,hx]
  have he:=ends_at hok hi
  rw [hlx] at he
  obtain ⟨⟨ha1,ha2⟩,⟨hb1,hb2⟩,_⟩:=he
  have gd:(w.down.map B)[n]? = some (B (dnA w n)):=by simp [dnA,show n < w.down.length by omega]
  obtain ⟨ga,qa⟩:=st_get w.t z2 (show nodeP w.t x.a from ⟨ha1,ha2⟩)
  obtain ⟨gb,qb⟩:=st_get w.t z2 (show nodeP w.t x.b from ⟨hb1,hb2⟩)
  have hcell:(lkT x).cells=[I x.a,I x.b,I x.per,I x.delay]:=rfl
  have hy1:=hy s n
  have hup:upA w n=(!dnA w n && (!stA w.t x.a.toNat && !stA w.t x.b.toNat)):=by rw [upA,hlx]
  rw [hlx] at hy1
  unfold upS at hk
  have hge:(w.t.links.map encK)[n]? = some (lkT x):=by simp [hx,encK]
  rw [hup] at hk hy1
  cases hd:dnA w n with
  | true =>
   rw [hd] at gd hk
   simp only [Bool.not_true,Bool.false_and,Bool.false_eq_true,if_false] at hk
   (repeat' first|simp only [il141l0_go,il141l0b,go_sem,hs,hge,hlt,hw,hN,g1,g4,g5,g6,hlen,f2,f5,frz_yl,gd,hcell]|(with_reducible first|apply wD|apply wT|(apply wM; intro)|(apply wL; intro))|((with_reducible first|refine wA ?_ ?_|refine wE ?_); rfl))
   all_goals (refine hk _ _ ⟨?_,rfl⟩; simp only [go_sem,hs,hw,f2,frz_yl])
  | false =>
   rw [hd] at gd hk hy1
   cases hsa:stA w.t x.a.toNat with
   | true =>
    rw [hsa] at ga hk
    simp only [Bool.not_true,Bool.not_false,Bool.true_and,Bool.false_and,Bool.false_eq_true,if_false] at hk
    (repeat' first|simp only [il141l0_go,il141l0b,go_sem,hs,hge,hlt,hw,hN,g1,g4,g5,g6,hlen,f2,f5,frz_yl,gd,ga,qa,hcell]|(with_reducible first|apply wD|apply wT|(apply wM; intro)|(apply wL; intro))|((with_reducible first|refine wA ?_ ?_|refine wE ?_); rfl))
    all_goals (refine hk _ _ ⟨?_,rfl⟩; simp only [go_sem,hs,hw,f2,frz_yl])
   | false =>
    rw [hsa] at ga hk hy1
    cases hsb:stA w.t x.b.toNat with
    | true =>
     rw [hsb] at gb hk
     simp only [Bool.not_true,Bool.not_false,Bool.true_and,Bool.false_eq_true,if_false] at hk
     (repeat' first|simp only [il141l0_go,il141l0b,go_sem,hs,hge,hlt,hw,hN,g1,g4,g5,g6,hlen,f2,f5,frz_yl,gd,ga,qa,gb,qb,hcell]|(with_reducible first|apply wD|apply wT|(apply wM; intro)|(apply wL; intro))|((with_reducible first|refine wA ?_ ?_|refine wE ?_); rfl))
     all_goals (refine hk _ _ ⟨?_,rfl⟩; simp only [go_sem,hs,hw,f2,frz_yl])
    | false =>
     rw [hsb] at gb hk hy1
     simp only [Bool.not_false,Bool.true_and,if_true] at hk
     have hy2:=fun Q hq=>hy1 Q hi rfl hq
     (repeat' first|simp only [il141l0_go,il141l0b,go_sem,hs,hge,hlt,hN,g1,g4,hlen,gd,ga,qa,gb,qb,hcell]|(with_reducible first|apply wD|apply wT|(apply wM; intro)|(apply wL; intro))|((with_reducible first|refine wA ?_ ?_|refine wE ?_); rfl))
     with_reducible refine hy2 _ ?_
     intro X'
     (repeat' first|simp only [il141l0_go,il141l0b,go_sem,hs,hw,List.append_assoc,g1,hlen,f2,f4,g5,g6,frz_yl]|(with_reducible first|apply wD|apply wT|(apply wM; intro)|(apply wL; intro))|((with_reducible first|refine wA ?_ ?_|refine wE ?_); rfl))
     all_goals (refine hk _ _ ⟨?_,rfl⟩; simp only [go_sem,hs,hw,f2,frz_yl])
 ·intro s e h Y R hlt ⟨hs,hh⟩ hk
  subst hh
  (repeat' first|simp only [il141l0_go,il141l0b,go_sem,hs,hlt]|(with_reducible first|apply wD|apply wT|(apply wM; intro)|(apply wL; intro))|((with_reducible first|refine wA ?_ ?_|refine wE ?_); rfl))
  all_goals (refine hk _ _ _ ?_; simp only [go_sem,id])
 ·refine ⟨?_,rfl⟩
  simp only [go_sem]
 ·intro x e h ⟨h1,h2⟩
  subst h1
  have hf:∀ (l:List Lk) (i:Nat) (s:σ),foldC (ρ:=σ) (fun n _ s=>Ctl.go (upS w nx s n)) id i l s=(List.range' i l.length).foldl (upS w nx) s:=by
   intro l
   induction l with
   | nil=>intro i s; rfl
   | cons l ls ih =>
    intro i s
    rw [foldC_go (s':=upS w nx s i) rfl,ih,List.length_cons,List.range'_succ,List.foldl_cons]
  rw [hf,← List.range_eq_range'] at h2
  subst h2
  (repeat' first|simp only [il141c,go_sem]|(with_reducible first|apply wD|apply wT|(apply wM; intro)|(apply wL; intro))|((with_reducible first|refine wA ?_ ?_|refine wE ?_); rfl))
  exact hQ _
end
end Go.Proofs.YtbibdnlbpjnieaaGreat
namespace Go.Proofs.YtbibdnlbpjnieaaGreat
open Go Go.Abs
def encP (x:Int × Int):T:=.agg [I x.1,I x.2]
def hd2 (x:Int × Int):Hd:=⟨true,x.1,x.2,0,0,0,0,0⟩
def minR (x y:Int × Int):Int × Int:=if lt6 (hd2 y) (hd2 x) < 0 then y else x
def rA (R:List (Int × Int)) (n:Int):Int × Int:=R[n.toNat]?.getD (0,0)
def rtS (w:Nw) (s:List (Int × Int) × Nat) (i:Nat):List (Int × Int) × Nat :=
 ((s.1.set (lnk w.t i).a.toNat (minR (rA s.1 (lnk w.t i).a) (rA s.1 (lnk w.t i).b))).set (lnk w.t i).b.toNat (minR (rA s.1 (lnk w.t i).a) (rA s.1 (lnk w.t i).b)),w.t.nodes.toNat)
def rtI (w:Nw) (s:List (Int × Int) × Nat):Prop:=s.1.length=w.t.nodes.toNat∧s.2≤w.t.nodes.toNat
theorem rtS_ok {w:Nw} {s:List (Int × Int) × Nat} {i:Nat} (h:rtI w s):rtI w (rtS w s i):=⟨by simp [rtS,h.1],Nat.le_refl _⟩
noncomputable def lpRt (rf:Code × Code) (E:FEnv):AObj:=.loop 88 (lpEnv 63 (tidyF (some [3]) E)) [30] rf.1 rf.2 false none
noncomputable def hpRt (N:Nat) (rf:Code × Code) (E:FEnv) (s:List (Int × Int) × Nat):Heap :=
 [.row 2 ((s.1.map encP).map .t) s.2,.row 1 [.ms 0 N 0 N 2 true] 1,lpRt rf E]
theorem hpRt_frz (N:Nat) (rf:Code × Code) (E:FEnv) (hE:E 3=.ref 1 1 0 0) (s:List (Int × Int) × Nat) (h:Heap) (q:Nat) (hq:3≤q):mapO (frzObj h (fromB q)) (hpRt N rf E s)=some (hpRt N rf E s):=by
 have f1:decide (q≤1)=false:=decide_eq_false (by omega)
 have h1:frzObj h (fromB q) (lpRt rf E)=some (lpRt rf E):=by
  rw [lpRt,frz_loop]
  simp only [go_sem,hE,f1]
 have a1:avoidAll (fromB q) [.ms 0 N 0 N 2 true]=true:=by simp [avoidAll,avoid,fromB]; omega
 simp only [hpRt,mapO,h1,frz_mapA,frz_rowA a1]
theorem roots_yield (rf:Code × Code) (hrf:rfOf Tryz.prog 88 0=rf) (w:Nw) (hok:okT w.t=true) (E:FEnv) (hE:E 3=.ref 1 1 0 0) (s:List (Int × Int) × Nat) (hI:rtI w s) (i:Nat) (hi:i < w.t.links.length) (dd nn:Nat) (hn:200 < nn) (Q:AV→Heap→Prop)
  (hQ:∀ X',Q (.t (B true)) (hpRt w.t.nodes.toNat rf E (rtS w s i)++[.row 4 [.t (lkT (lnk w.t i))] 1]++X')) :
  oB (inl Tryz.prog pol (ans Tryz.prog pol) nn (dd+1) (.yl 2) [.t (lkT (lnk w.t i))] (hpRt w.t.nodes.toNat rf E s++[.row 4 [.t (lkT (lnk w.t i))] 1])) Q:=by
 subst hrf
 obtain ⟨⟨ha1,ha2⟩,⟨hb1,hb2⟩,hab⟩:=ends_at hok hi
 obtain ⟨z1,z2,z3⟩:=okT_size hok
 obtain ⟨s,mr⟩:=s
 obtain ⟨hl,hmr⟩:=hI
 dsimp only at hl hmr
 simp only [rtS] at hQ
 generalize lnk w.t i=l at *
 obtain ⟨la,lb,lp,ld⟩:=l
 dsimp only at ha1 ha2 hb1 hb2 hab hQ ⊢
 obtain ⟨a,rfl⟩:∃ a:Nat,la=(a:Nat):=⟨la.toNat,by omega⟩
 obtain ⟨b,rfl⟩:∃ b:Nat,lb=(b:Nat):=⟨lb.toNat,by omega⟩
 generalize hNN:w.t.nodes.toNat=N at *
 have haN:a < N:=by omega
 have hbN:b < N:=by omega
 obtain ⟨x,hx⟩:∃ x,s[a]? = some x:=⟨s[a]'(by omega),by simp [hl,haN]⟩
 obtain ⟨y,hy⟩:∃ y,s[b]? = some y:=⟨s[b]'(by omega),by simp [hl,hbN]⟩
 have hra:rA s ((a:Nat):Int)=x:=by simp [rA,hx]
 have hrb:rA s ((b:Nat):Int)=y:=by simp [rA,hy]
 rw [hra,hrb] at hQ
 simp only [Int.toNat_natCast] at hQ
 have k1:=compH_ans (hd2 y) (hd2 x)
 simp only [hd2] at k1
 have gx:((s.map encP).map AV.t)[a]? = some (.t (.agg [I x.1,I x.2])):=map_get (enc:=encP) hx
 have gy:((s.map encP).map AV.t)[b]? = some (.t (.agg [I y.1,I y.2])):=map_get (enc:=encP) hy
 have hsl:((s.map encP).map AV.t).length=N:=by simp [hl]
 have hcl:(T.agg [I ((a:Nat):Int),I ((b:Nat):Int),I lp,I ld]).cells=[I ((a:Nat):Int),I ((b:Nat):Int),I lp,I ld]:=rfl
 have hset:=fun r:Int × Int=>map_set (enc:=encP) (l:=s.set a r) (i:=b) (x:=r)
 have hset1:=fun r:Int × Int=>map_set (enc:=encP) (l:=s) (i:=a) (x:=r)
 have hab':a≠b:=fun h=>hab (by rw [h])
 have gy2:∀ r:T,(((s.map encP).map AV.t).set a (.t r))[b]? = some (.t (.agg [I y.1,I y.2])):=fun r=>by rw [List.getElem?_set_ne hab']; exact gy
 have hsl2:∀ r:AV,(((s.map encP).map AV.t).set a r).length=N:=fun r=>by simp [hl]
 have hq:=hQ
 have hav:∀ (q:Nat→Bool) (r:T),avoidAll q ((((s.map encP).map AV.t).set a (.t r)).set b (.t r))=true:=fun q r=>by rw [← List.map_set,← List.map_set,av_map]
 have hfin:∀ r:Int × Int,(((((s.set a r).set b r).map encP).map AV.t))=(((s.map encP).map AV.t).set a (.t (.agg [I r.1,I r.2]))).set b (.t (.agg [I r.1,I r.2])):=fun r=>by rw [← hset r,← hset1 r]; rfl
 simp only [hpRt,lpRt,List.cons_append,List.nil_append] at hq ⊢
 rw [hfin] at hq
 generalize (s.map encP).map AV.t=S at *
 by_cases hlt:lt6 (hd2 y) (hd2 x) < 0
 ·have hm:minR x y=y:=by rw [minR,if_pos hlt]
  simp only [hd2] at hlt
  have d1:=decide_eq_true hlt
  rw [hm] at hq
  with_reducible refine oB_yl (E:=tidyF (some [3]) E) rfl rfl rfl il88r0a_eq il88r0b_eq ?_
  (repeat' first|simp only [il88r0a,il88r0b,go_sem,hE,hcl,gx,gy,hsl,haN,hbN,hmr,k1,d1,gy2,hsl2,hav]|(with_reducible first|apply wD|apply wT|(apply wM; intro)|(apply wL; intro))|((with_reducible first|refine wA ?_ ?_|refine wE ?_); rfl))
  all_goals exact hq _
 ·have hm:minR x y=x:=by rw [minR,if_neg hlt]
  simp only [hd2] at hlt
  have d1:=decide_eq_false hlt
  rw [hm] at hq
  with_reducible refine oB_yl (E:=tidyF (some [3]) E) rfl rfl rfl il88r0a_eq il88r0b_eq ?_
  (repeat' first|simp only [il88r0a,il88r0b,go_sem,hE,hcl,gx,gy,hsl,haN,hbN,hmr,k1,d1,gy2,hsl2,hav]|(with_reducible first|apply wD|apply wT|(apply wM; intro)|(apply wL; intro))|((with_reducible first|refine wA ?_ ?_|refine wE ?_); rfl))
  all_goals exact hq _
end Go.Proofs.YtbibdnlbpjnieaaGreat
