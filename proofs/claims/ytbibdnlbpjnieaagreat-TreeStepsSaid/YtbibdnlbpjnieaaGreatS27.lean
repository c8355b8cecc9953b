/- Part 27 of the proof of TreeSteps. -/
import Derived.Test.YtbibdnlbpjnieaaGreatS26
set_option linter.all false
set_option maxRecDepth 100000
set_option maxHeartbeats 4000000
namespace Go.Proofs.YtbibdnlbpjnieaaGreat
open Go Go.Abs
def rvH (w:Nw) (n i:Nat):Hd :=
 if (sntP w.t w.bs (bk ((trunkL w.t n)[i]?.getD 0))).is=true∧dnA w ((trunkL w.t n)[i]?.getD 0 / 2)=false then rcvH (hrd (bxA w n).b i) (sntP w.t w.bs (bk ((trunkL w.t n)[i]?.getD 0))) else hrd (bxA w n).b i
def rvL (w:Nw) (n k i:Nat):List Hd:=(List.range k).map (fun j=>if j < i then rvH w n j else hrd (bxA w n).b j)
theorem q3M (w:Nw) (n k i:Nat):(rvL w n k i).length=k:=by simp [rvL]
theorem qiO {w:Nw} {n k:Nat} (hk:(bxA w n).b.heard.length=k):rvL w n k 0=(bxA w n).b.heard:=by
 refine List.ext_getElem (by simp [rvL,hk]) (fun j h1 h2=>?_)
 simp [rvL,hrd,h2]
theorem qiP {w:Nw} {n k i:Nat} (hi:i < k):(rvL w n k i).set i (rvH w n i)=rvL w n k (i+1):=by
 refine List.ext_getElem (by simp [rvL]) (fun j h1 h2=>?_)
 rw [List.getElem_set]
 simp only [rvL,List.getElem_map,List.getElem_range]
 by_cases e:i=j
 ·subst e; simp
 ·rw [if_neg e]
  have:(j < i+1)=(j < i):=by simp; omega
  simp only [this]
theorem qiQ {w:Nw} {n k i:Nat} (h:rvH w n i=hrd (bxA w n).b i):rvL w n k i=rvL w n k (i+1):=by
 refine List.ext_getElem (by simp [rvL]) (fun j h1 h2=>?_)
 simp only [rvL,List.getElem_map,List.getElem_range]
 by_cases e:j=i
 ·subst e; simp [h]
 ·have:(j < i+1)=(j < i):=by simp; omega
  simp only [this]
theorem qiR {w:Nw} {n k i:Nat} (hi:i < k):hrd (putB (bxA w n).b (rvL w n k i)) i=hrd (bxA w n).b i:=by
 simp [hrd,putB,rvL,hi]
abbrev rwHp (w:Nw) (f:Fl) (o:List Bx):Heap:=[.row 6 [.t zN6] 0,.row 1 [] 0,.row 1 [] 0,rowG 5 encX o,.row 6 [.agg [.t (I w.t.nodes),.t (.sl f.st 1 (w.t.station.map B)),.t (.sl f.lk 4 (w.t.links.map encK)),.t (.sl f.pr 1 (w.prios.map I)),.t (.sl f.dn 1 (w.down.map B)),.ms 3 o.length 0 o.length 5 false]] 1]
section
variable (f:Fl) (w:Nw) (hO:NwOk w) (hz:∀ x∈w.bs,x.z=false)
include hO hz
theorem qiS (n:Nat) (hn:n < w.bs.length) (hst:stA w.t n=false) (c1 c2 c3:Bool) (hb:w.bs[n]? = some ⟨false,c1,c2,c3,(bxA w n).b⟩) (k:Nat) (hk:(trunkL w.t n).length=k) (o:List Bx) (dd nn:Nat) (hnn:1000 < nn) (R:Xit→FEnv→Heap→Prop) (e:FEnv)
  (he:e 1=.t (.ip (nwC f w))∧e 2=.ref 0 1 0 0∧e 3=.ref 4 1 0 0∧e 4=.t (I (n:Nat))∧e 5=.ref 5 1 0 0∧e 6=.t (I 0))
  (hR:∀ e c,(e 1=.t (.ip (nwC f w))∧e 2=.ref 0 1 0 0∧e 3=.ref 4 1 0 0∧e 4=.t (I (n:Nat))∧e 5=.ref 5 1 0 0)→R (.exit 2) e (rwHp w f o++[.row 5 [.t (brT c1 c2 c (putB (bxA w n).b (rvL w n k k)))] 1])) :
  wpIter 6 (some [1,2,3,4,5,6]) (wc Tryz.prog pol (ans Tryz.prog pol) (inl Tryz.prog pol (ans Tryz.prog pol) nn dd) nn 25 il25l0) R nn e (rwHp w f o++[.row 5 [.t (brT c1 c2 c3 (bxA w n).b)] 1]):=by
 obtain ⟨z1,z2,z3⟩:=q06 hO.t
 have hbl:=hO.bl
 obtain ⟨_,xv⟩:=hO.vb.2 n _ hb hst
 dsimp only at xv
 have hok:=q0j xv.ok
 simp only [okL] at hok
 have hpl:(bxA w n).b.ports.length=k:=by rw [xv.ports,List.length_map,hk]
 have hhl:(bxA w n).b.heard.length=k:=by omega
 have h24:=q0J hO.t (n:Nat)
 refine q04 (trunkL w.t n) (fun p=>I (ofN p)) (step:=fun i p (_:Unit)=>Ctl.go ()) (fin:=id)
  (St:=fun i _ e h=>(e 1=.t (.ip (nwC f w))∧e 2=.ref 0 1 0 0∧e 3=.ref 4 1 0 0∧e 4=.t (I (n:Nat))∧e 5=.ref 5 1 0 0∧e 6=.t (I (i:Nat)))∧∃ c,h=rwHp w f o++[.row 5 [.t (brT c1 c2 c (putB (bxA w n).b (rvL w n k i)))] 1])
  (Ex:=fun _ x e h=>(e 1=.t (.ip (nwC f w))∧e 2=.ref 0 1 0 0∧e 3=.ref 4 1 0 0∧e 4=.t (I (n:Nat))∧e 5=.ref 5 1 0 0)∧x=.exit 2∧∃ c,h=rwHp w f o++[.row 5 [.t (brT c1 c2 c (putB (bxA w n).b (rvL w n k k)))] 1]) (s:=()) (by omega) ?_ ?_ (by omega) ⟨he,c3,by rw [qiO hhl]; rfl⟩ ?_
 ·intro i p _ e h Y R' hm hi hx hget hlt hw ⟨hs,c,hh⟩ hK
  subst hh
  simp only [q01] at hK
  rw [hk] at hi hlt
  have htp:=q1B hst hm
  have hp:=htp.1
  have hbp:(bxA w n).b.ports=(trunkL w.t n).map ofN:=xv.ports
  have gp:((bxA w n).b.ports.map I)[i]? = some (I (p:Nat)):=by rw [hbp]; simp [hx,ofN]
  have hPx:(trunkL w.t n)[i]?.getD 0=p:=by rw [hx]; rfl
  -- the other end
  obtain ⟨m,x,m1,m2,m3,m4,m5,m6,m7,m8⟩:=q0T hO.t hO.bl hO.vb (q1d htp)
  have hfr:frP w.t (bk p)=toP w.t p:=bk_fr w.t p
  have kT:=q6f f.st f.lk w.t p hp (by omega)
  rw [← hfr,m1] at kT
  have gb:(w.bs.map encX)[m]? = some (encX x):=by simp [m3]
  have kB:=qgX p (by omega)
  have hbt:=q0S (q1d htp)
  rw [m1] at hbt
  have h24m:=q0J hO.t (m:Nat)
  obtain ⟨i1,i2,i3⟩:=q0R (q0S (q1d htp))
  rw [m1] at i1 i2 i3
  have hok2:=q0j m6.ok
  simp only [okL] at hok2
  have hpx:x.b.ports=(trunkL w.t m).map ofN:=m6.ports
  have hsn:sntP w.t w.bs (bk p)=sentF x.b (opF x.b).t (ixP w.t (bk p)):=by rw [sntP,m1,Int.toNat_natCast,m4]
  obtain ⟨z,d1,d2,d3,b⟩:=x
  dsimp only at m5 m6 hpx hok2 hsn m7 m8
  subst m5
  have kI:=qh1 d1 b.ports (ofN (bk p)) (by rw [hpx]; simp; omega)
  rw [hpx,i3,← hpx] at kI
  have kS:=qiJ d1 d2 d3 b m6.ok (ixP w.t (bk p)) (by omega)
  rw [← hsn] at kS
  have ex:encX ⟨false,d1,d2,d3,b⟩=brT d1 d2 d3 b:=rfl
  rw [ex] at gb
  have gd:(w.down.map B)[p / 2]? = some (B (dnA w (p / 2))):=by simp [dnA,show p / 2 < w.down.length by rw [hO.dl]; omega]
  have v:=q1T hp (show w.t.links.length≤1000 by omega)
  have hrv:rvH w n i=if (sntP w.t w.bs (bk p)).is=true∧dnA w (p / 2)=false then rcvH (hrd (bxA w n).b i) (sntP w.t w.bs (bk p)) else hrd (bxA w n).b i:=by rw [rvH,hPx]
  have kR:=qiL c1 c2 c (putB (bxA w n).b (rvL w n k i)) i (sntP w.t w.bs (bk p)) (by show i < (rvL w n k i).length; rw [q3M]; exact hi) (by show (rvL w n k i).length≤1000; rw [q3M]; omega)
  rw [qiR hi] at kR
  generalize ixP w.t (bk p)=jx at *
  generalize sntP w.t w.bs (bk p)=snt at *
  have hkeep:¬ (snt.is=true∧dnA w (p / 2)=false)→rvL w n k i=rvL w n k (i+1):=fun hc=>qiQ (by rw [hrv,if_neg hc])
  have hset:(snt.is=true∧dnA w (p / 2)=false)→(rvL w n k i).set i (rcvH (hrd (bxA w n).b i) snt)=rvL w n k (i+1):=fun hc=>by rw [← qiP hi,hrv,if_pos hc]
  simp only [putB] at kR hK ⊢
  simp only [ofN] at kI
  have hn0:((bxA w n).b.ports.map I).length=k:=by rw [List.length_map,hpl]
  cases hi1:snt.is with
  | false =>
   rw [← hkeep (by rw [hi1]; simp)] at hK
   generalize rvL w n k i=LH at *
   (repeat' first|simp only [il25l0_go,il25l0b,go_sem,hs,gp,hpl,hlt,hw,kT,gb,kB,kI,kS,hi1,q0K,av_ms]|with_reducible refine wX fun _=>?_|((with_reducible refine wY ?_ ?_); rfl)|fail)
   all_goals (refine hK _ _ ⟨?_,c,?_⟩ <;> first|(simp only [go_sem,hs,hw]; done)|rfl)
  | true =>
   cases hdn:dnA w (p / 2) with
   | true =>
    rw [hdn] at gd
    rw [← hkeep (by rw [hdn]; simp)] at hK
    generalize rvL w n k i=LH at *
    (repeat' first|simp only [il25l0_go,il25l0b,go_sem,hs,gp,hpl,hlt,hw,kT,gb,kB,kI,kS,hi1,gd,v,q0K]|with_reducible refine wX fun _=>?_|((with_reducible refine wY ?_ ?_); rfl)|fail)
    all_goals (refine hK _ _ ⟨?_,c,?_⟩ <;> first|(simp only [go_sem,hs,hw]; done)|rfl)
   | false =>
    rw [hdn] at gd
    obtain ⟨c',kR⟩:=kR
    try dsimp only at kR
    rw [hset ⟨hi1,hdn⟩] at kR
    generalize rvL w n k (i+1)=LH2 at *
    generalize rvL w n k i=LH at *
    (repeat' first|simp only [il25l0_go,il25l0b,go_sem,hs,gp,hpl,hlt,hw,kT,gb,kB,kI,kS,hi1,gd,v,kR,q0K]|with_reducible refine wX fun _=>?_|((with_reducible refine wY ?_ ?_); rfl)|fail)
    all_goals (refine hK _ _ ⟨?_,c',?_⟩ <;> first|(simp only [go_sem,hs,hw]; done)|rfl)
 ·intro _ e h Y R' hlt ⟨hs,c,hh⟩ hK
  subst hh
  rw [hk] at hlt
  have hlt':decide ((k:Int) < (k:Nat))=false:=by simp
  simp only [putB] at hK ⊢
  simp only [hk] at hs hK ⊢
  (repeat' first|simp only [il25l0_go,il25l0b,go_sem,hs,hpl,hlt']|with_reducible refine wX fun _=>?_|((with_reducible refine wY ?_ ?_); rfl)|fail)
  all_goals (refine hK _ _ _ ⟨?_,rfl,c,rfl⟩; simp only [go_sem,hs])
 ·intro x e h ⟨h1,h2,c,h3⟩
  subst h2 h3
  exact hR _ c h1
end
end Go.Proofs.YtbibdnlbpjnieaaGreat
namespace Go.Proofs.YtbibdnlbpjnieaaGreat
open Go Go.Abs
theorem q6S {P:Program} {pol:Pol} {f:FuncId} {nt:Nat} {c:C} {rs:List (Nat × Option (Bool × Nat))} {args:List T} {W:T→Prop} (n d:Nat) (hF:cFn P pol f=some ⟨nt,c,rs⟩) (hl:args.length≤nt)
  (hw:wc P pol (ans P pol) (inl P pol (ans P pol) n d) n f c (endK rs (fun v h=>∃ r,W r∧retQ r v h)) (envOf (args.map .t)) []) (hp:primT pol f args=none:=by rfl):∃ r,W r∧ans P pol f args=some r:=by
 obtain ⟨v,h',h1,r,h3,h2⟩:=q3e (Q:=fun v h=>∃ r,W r∧retQ r v h) hF (by simpa using hl) hw
 refine ⟨r,h3,q32 (n:=n) (d:=d) hp ?_⟩
 unfold runTop
 rw [h1]
 exact h2
def rfR (w:Nw) (n:Nat):Br:=putB (bxA w n).b ((List.range (bxA w n).b.ports.length).map (fun i=>tickH (rvH w n i)))
section
variable (f:Fl) (w:Nw) (hO:NwOk w) (hz:∀ x∈w.bs,x.z=false)
include hO hz
omit hz in
theorem q6T {n i:Nat} (hst:stA w.t n=false) {x:Bx} (hb:w.bs[n]? = some x) (hi:i < (trunkL w.t n).length):okH (rvH w n i):=by
 obtain ⟨_,xv⟩:=hO.vb.2 n x hb hst
 have hbx:bxA w n=x:=by simp [bxA,hb]
 have h0:okH (hrd (bxA w n).b i):=by rw [hbx]; exact q6c xv.ok i
 unfold rvH
 split
 ·rename_i hc
  refine q69 h0 ?_
  have hx:(trunkL w.t n)[i]? = some ((trunkL w.t n)[i]):=List.getElem?_eq_getElem hi
  have htp:=q1B hst (List.getElem_mem hi)
  rw [hx,Option.getD_some] at hc ⊢
  obtain ⟨m,y,h1,h2,h3,h4,h5,h6,h7,h8⟩:=q0T hO.t hO.bl hO.vb (q1d htp)
  have h9:=q0j h6.ok
  simp only [okL] at h9
  have hi1:=hc.1
  simp only [sntP,h1,Int.toNat_natCast,h4] at hi1 ⊢
  unfold sentF at hi1 ⊢
  split at hi1
  ·rename_i h; rw [if_pos h]; exact q3F h6.ok (by omega)
  ·exact (by cases hi1)
 ·exact h0
theorem qiT (hE:∀ n x,w.bs[n]? = some x→stA w.t n=true→emptyB x.b=true):∃ bs2:List Bx,(bs2.length=w.bs.length∧∀ n x,bs2[n]? = some x→x.z=false∧x.b=rfR w n) ∧
  ans Tryz.prog pol 25 [nwT f w]=some (nwT ⟨f.st,f.lk,f.pr,f.dn,false⟩ ⟨w.t,w.prios,w.down,bs2⟩):=by
 obtain ⟨z1,z2,z3⟩:=q06 hO.t
 have hbl:=hO.bl
 have hpl:=q0A hO.rank
 -- the flags of the bridges that are made,one after another
 have one:∀ n,n < w.bs.length→∃ c1 c2 c3,w.bs[n]? = some ⟨false,c1,c2,c3,(bxA w n).b⟩:=fun n hn=>by
  have hx:w.bs[n]? = some (w.bs[n]):=List.getElem?_eq_getElem hn
  have hzz:=hz _ (List.getElem_mem hn)
  refine ⟨w.bs[n].c1,w.bs[n].c2,w.bs[n].c3,?_⟩
  rw [hx]
  simp only [bxA,hx,Option.getD_some]
  rw [← hzz]
 generalize hN:w.bs.length=N at *
 obtain ⟨nn,hn⟩:∃ nn,1000 < nn+1:=⟨2000,by omega⟩
 suffices hh:∃ r,(∃ bs2:List Bx,(bs2.length=N∧∀ n x,bs2[n]? = some x→x.z=false∧x.b=rfR w n)∧r=nwT ⟨f.st,f.lk,f.pr,f.dn,false⟩ ⟨w.t,w.prios,w.down,bs2⟩)∧ans Tryz.prog pol 25 [nwT f w]=some r by
  obtain ⟨r,⟨bs2,h1,rfl⟩,h2⟩:=hh
  exact ⟨bs2,h1,h2⟩
 refine q6S (nn+1) 1 il25_eq (Nat.le_of_ble_eq_true rfl) ?_
 (repeat' first|simp only [il25c,go_sem]|with_reducible refine wX fun _=>?_|((with_reducible refine wY ?_ ?_); rfl)|fail)
 refine q0D N (step:=fun n (_:Unit)=>Ctl.go ()) (fin:=id)
  (St:=fun n _ e h=>(e 1=.t (.ip (nwC f w))∧e 2=.ref 0 1 0 0∧e 3=.ref 4 1 0 0∧e 4=.t (I (n:Nat)))∧∃ o:List Bx,(o.length=n∧∀ m x,o[m]? = some x→x.z=false∧x.b=rfR w m)∧h=rwHp w f o)
  (Ex:=fun _ x e h=>(e 2=.ref 0 1 0 0∧e 3=.ref 4 1 0 0)∧x=.exit 0∧∃ o:List Bx,(o.length=N∧∀ m x,o[m]? = some x→x.z=false∧x.b=rfR w m)∧h=rwHp w f o) (s:=()) (by omega) ?_ ?_ (by omega) ?_ ?_
 ·intro n _ e h Y R hi hlt hw ⟨hs,o,⟨ho,hgood⟩,hh⟩ hk
  subst hh
  simp only [q01] at hk
  rw [hbl] at hlt
  obtain ⟨c1,c2,c3,hb⟩:=one n hi
  have gb:(w.bs.map encX)[n]? = some (brT c1 c2 c3 (bxA w n).b):=by rw [List.getElem?_map,hb]; rfl
  have hroom:(o.length+1)*88≤roomB:=q07 (by omega) (by omega)
  have is1:rowIs 5 o.length (some (rowG 5 encX o)):=q0l
  have push:∀ (x:Bx),x.z=false→x.b=rfR w n→((o++[x]).length=n+1∧∀ m y,(o++[x])[m]? = some y→y.z=false∧y.b=rfR w m):=fun x hx1 hx2=>by
   refine ⟨by simp [ho],fun m y hy=>?_⟩
   rw [List.getElem?_append] at hy
   split at hy
   ·exact hgood m y hy
   ·rename_i hm
    have hm0:m=n:=by
     have:=(List.getElem?_eq_some_iff.1 hy).1
     simp at this
     omega
    subst hm0
    rw [ho,Nat.sub_self] at hy
    cases hy
    exact ⟨hx1,hx2⟩
  cases hst:stA w.t n with
  | true =>
   have hem:=of_decide_eq_true (hE n _ hb hst)
   obtain ⟨_,e2,e3,e4⟩:=hem
   dsimp only at e2 e3 e4
   have hfR:rfR w n=putB (bxA w n).b (((bxA w n).b.heard).map tickR):=by
    rw [rfR,e2,List.eq_nil_of_length_eq_zero e4]; rfl
   obtain ⟨c,kT⟩:=q6R c1 c2 c3 (bxA w n).b (by omega) (fun h hm=>by rw [List.eq_nil_of_length_eq_zero e4] at hm; cases hm)
   rw [← hfR] at kT
   have hpu:=q1N (k:=5) (enc:=encX) (l:=o) (x:=⟨false,c1,c2,c,rfR w n⟩)
   have hgo:=push ⟨false,c1,c2,c,rfR w n⟩ rfl rfl
   have ex:encX ⟨false,c1,c2,c,rfR w n⟩=brT c1 c2 c (rfR w n):=rfl
   rw [ex] at hpu
   have hp0:(bxA w n).b.ports=[]:=List.eq_nil_of_length_eq_zero e2
   generalize rfR w n=RB at *
   generalize bxA w n=X at *
   obtain ⟨xz,x1,x2,x3,b⟩:=X
   obtain ⟨p,q,ports,costs,heard⟩:=b
   dsimp only at hp0 gb kT
   subst hp0
   have kT:ans Tryz.prog pol 65 [.agg [I p,I q,.sl c1 1 [],.sl c2 1 (costs.map I),.sl c3 8 (heard.map encH)]]=some (brT c1 c2 c RB):=kT
   (repeat' first|simp only [il25l1_go,il25l1b,go_sem,hs,hlt,hw,gb,kT,hroom,is1,q0o,q0p,hpu,q0K,Int.natCast_zero]|with_reducible refine wX fun _=>?_|((with_reducible refine wY ?_ ?_); rfl)|((with_reducible refine q0x (body:=wc _ _ _ _ _ _ il25l0) ?_ ?_); exact Nat.le_of_ble_eq_true rfl; simp only [il25l0_go,il25l0b])|fail)
   all_goals (refine hk _ _ ⟨?_,_,hgo,?_⟩ <;> first|(simp only [go_sem,hs,hw,List.length_append]; done)|simp [rwHp])
  | false =>
   obtain ⟨_,xv⟩:=hO.vb.2 n _ hb hst
   dsimp only at xv
   have hpl2:(bxA w n).b.ports.length=(trunkL w.t n).length:=by rw [xv.ports,List.length_map]
   have hok2:=q0j xv.ok
   simp only [okL] at hok2
   have h24:=q0J hO.t (n:Nat)
   have hall:∀ h∈rvL w n (trunkL w.t n).length (trunkL w.t n).length,okH h:=fun h hm=>by
    obtain ⟨j,hj,rfl⟩:=List.mem_map.1 hm
    rw [List.mem_range] at hj
    rw [if_pos hj]
    exact q6T w hO hst hb hj
   have hfR:rfR w n=putB (putB (bxA w n).b (rvL w n (trunkL w.t n).length (trunkL w.t n).length)) ((rvL w n (trunkL w.t n).length (trunkL w.t n).length).map tickR):=by
    have hL:(List.range (trunkL w.t n).length).map (fun i=>tickH (rvH w n i))=(rvL w n (trunkL w.t n).length (trunkL w.t n).length).map tickR:=by
     rw [rvL,List.map_map]
     refine List.map_congr_left (fun j hj=>?_)
     rw [List.mem_range] at hj
     simp only [Function.comp,if_pos hj]
     exact (qiN (q6T w hO hst hb hj)).symm
    rw [rfR,hpl2,hL]
    rfl
   have kT:=fun c=>q6R c1 c2 c (putB (bxA w n).b (rvL w n (trunkL w.t n).length (trunkL w.t n).length)) (by show (rvL _ _ _ _).length≤1000; rw [q3M]; omega) (fun h hm=>by
    obtain ⟨q1,q2⟩:=hall h hm
    cases hi:h.is with
    | true=>have:=(q1 hi).2; omega
    | false=>rw [q2 hi]; exact ⟨by decide,by decide⟩)
   have hl0:=qiS f w hO hz n (by omega) hst c1 c2 c3 hb (trunkL w.t n).length rfl o 1 (nn+1) hn
   have hpu:=fun c=>q1N (k:=5) (enc:=encX) (l:=o) (x:=⟨false,c1,c2,c,rfR w n⟩)
   have hgo:=fun c=>push ⟨false,c1,c2,c,rfR w n⟩ rfl rfl
   have ex:∀ c,encX ⟨false,c1,c2,c,rfR w n⟩=brT c1 c2 c (rfR w n):=fun c=>rfl
   simp only [ex] at hpu
   have hrb:putB (putB (bxA w n).b (rvL w n (trunkL w.t n).length (trunkL w.t n).length)) ((rvL w n (trunkL w.t n).length (trunkL w.t n).length).map tickR)=rfR w n:=hfR.symm
   simp only [show (putB (bxA w n).b (rvL w n (trunkL w.t n).length (trunkL w.t n).length)).heard=rvL w n (trunkL w.t n).length (trunkL w.t n).length from rfl,hrb] at kT
   generalize putB (bxA w n).b (rvL w n (trunkL w.t n).length (trunkL w.t n).length)=PB at *
   clear hfR hrb hall
   generalize rfR w n=RB at *
   generalize (bxA w n).b=b at *
   (repeat' first|simp only [il25l1_go,il25l1b,go_sem,hs,hlt,gb]|with_reducible refine wX fun _=>?_|((with_reducible refine wY ?_ ?_); rfl)|fail)
   refine hl0 _ _ (by simp only [go_sem,hs]) ?_
   intro e1 c he1
   obtain ⟨c',kT⟩:=kT c
   have hpu:=hpu c'
   (repeat' first|simp only [il25l1_go,il25l1b,rwHp,List.cons_append,List.nil_append,go_sem,he1,hw,kT,hroom,is1,q0o,q0p,hpu,q0K]|with_reducible refine wX fun _=>?_|((with_reducible refine wY ?_ ?_); rfl)|fail)
   all_goals (refine hk _ _ ⟨?_,_,hgo c',?_⟩ <;> first|(simp only [go_sem,he1,hw,List.length_append]; done)|simp [rwHp])
 ·intro _ e h Y R hlt ⟨hs,o,hgood,hh⟩ hk
  subst hh
  have hlt:decide ((N:Int) < w.t.nodes)=false:=by rw [← hbl]; exact hlt
  (repeat' first|simp only [il25l1_go,il25l1b,go_sem,hs,hlt]|with_reducible refine wX fun _=>?_|((with_reducible refine wY ?_ ?_); rfl)|fail)
  all_goals (refine hk _ _ _ ⟨?_,rfl,o,hgood,rfl⟩; simp only [go_sem,hs])
 ·refine ⟨?_,[],⟨rfl,fun m x h=>by simp at h⟩,rfl⟩
  simp only [go_sem]
 ·intro x e h ⟨h1,h2,o,hgood,h3⟩
  subst h2 h3
  have is1:rowIs 5 o.length (some (rowG 5 encX o)):=q0l
  (repeat' first|simp only [il25c,go_sem,h1]|with_reducible refine wX fun _=>?_|((with_reducible refine wY ?_ ?_); rfl)|fail)
  refine ⟨_,⟨o,hgood,rfl⟩,?_⟩
  simp only [go_sem,is1,q0o,q0p]
end
end Go.Proofs.YtbibdnlbpjnieaaGreat
namespace Go.Proofs.YtbibdnlbpjnieaaGreat
open Go Go.Abs
def gvL (b:Br) (rv:Nat→Hd) (k i:Nat):List Hd:=(List.range k).map (fun j=>if j < i then rv j else hrd b j)
theorem q6U (b:Br) (rv:Nat→Hd) (k i:Nat):(gvL b rv k i).length=k:=by simp [gvL]
theorem qiU {b:Br} {rv:Nat→Hd} {k:Nat} (hk:b.heard.length=k):gvL b rv k 0=b.heard:=by
 refine List.ext_getElem (by simp [gvL,hk]) (fun j h1 h2=>?_)
 simp [gvL,hrd,h2]
theorem qiV {b:Br} {rv:Nat→Hd} {k i:Nat} (hi:i < k):(gvL b rv k i).set i (rv i)=gvL b rv k (i+1):=by
 refine List.ext_getElem (by simp [gvL]) (fun j h1 h2=>?_)
 rw [List.getElem_set]
 simp only [gvL,List.getElem_map,List.getElem_range]
 by_cases e:i=j
 ·subst e; simp
 ·rw [if_neg e]
  have:(j < i+1)=(j < i):=by simp; omega
  simp only [this]
theorem qiW {b:Br} {rv:Nat→Hd} {k i:Nat} (h:rv i=hrd b i):gvL b rv k i=gvL b rv k (i+1):=by
 refine List.ext_getElem (by simp [gvL]) (fun j h1 h2=>?_)
 simp only [gvL,List.getElem_map,List.getElem_range]
 by_cases e:j=i
 ·subst e; simp [h]
 ·have:(j < i+1)=(j < i):=by simp; omega
  simp only [this]
def fgH (P:List Nat) (b:Br) (j:Nat) (dn:Bool) (i:Nat):Hd:=if dn=true∧P[i]?.getD 0 / 2=j then zH else hrd b i
abbrev swHp (f:Fl) (w:Nw) (D:List Bool) (o:List Bx):Heap:=[.row 6 [.agg [.t (I w.t.nodes),.t (.sl f.st 1 (w.t.station.map B)),.t (.sl f.lk 4 (w.t.links.map encK)),.t (.sl f.pr 1 (w.prios.map I)),.ms 2 D.length 0 D.length 1 false,.t (.sl f.bs 5 (w.bs.map encX))]] 1,.row 6 [.t zN6] 0,.row 1 ((D.map B).map .t) D.length,rowG 5 encX o]
theorem qiX (f:Fl) (w:Nw) (D:List Bool) (o:List Bx) (n j:Nat) (dn:Bool) (c1 c2 c3:Bool) (b:Br) (P:List Nat) (hP:b.ports=P.map ofN) (hPl:P.length≤24) (hp48:∀ p∈P,p≤1000) (hh:b.heard.length=P.length) (dd nn:Nat) (hnn:1000 < nn) (R:Xit→FEnv→Heap→Prop) (e:FEnv)
  (he:e 1=.t (I (j:Nat))∧e 2=.t (B dn)∧e 3=.ref 0 1 0 0∧e 6=.ref 1 1 0 0∧e 8=.ms 3 o.length 0 o.length 5 false∧e 9=.t (I (n:Nat))∧e 10=.ref 4 1 0 0∧e 11=.t (I 0))
  (hR:∀ e c,(e 1=.t (I (j:Nat))∧e 2=.t (B dn)∧e 3=.ref 0 1 0 0∧e 6=.ref 1 1 0 0∧e 8=.ms 3 o.length 0 o.length 5 false∧e 9=.t (I (n:Nat))∧e 10=.ref 4 1 0 0)→R (.exit 2) e (swHp f w D o++[.row 5 [.t (brT c1 c2 c (putB b (gvL b (fgH P b j dn) P.length P.length)))] 1])) :
  wpIter 5 (some [1,2,3,6,8,9,10,11]) (wc Tryz.prog pol (ans Tryz.prog pol) (inl Tryz.prog pol (ans Tryz.prog pol) nn dd) nn 26 il26l0) R nn e (swHp f w D o++[.row 5 [.t (brT c1 c2 c3 b)] 1]):=by
 have hpl:b.ports.length=P.length:=by rw [hP,List.length_map]
 refine q04 P (fun p=>I (ofN p)) (step:=fun i p (_:Unit)=>Ctl.go ()) (fin:=id)
  (St:=fun i _ e h=>(e 1=.t (I (j:Nat))∧e 2=.t (B dn)∧e 3=.ref 0 1 0 0∧e 6=.ref 1 1 0 0∧e 8=.ms 3 o.length 0 o.length 5 false∧e 9=.t (I (n:Nat))∧e 10=.ref 4 1 0 0∧e 11=.t (I (i:Nat)))∧∃ c,h=swHp f w D o++[.row 5 [.t (brT c1 c2 c (putB b (gvL b (fgH P b j dn) P.length i)))] 1])
  (Ex:=fun _ x e h=>(e 1=.t (I (j:Nat))∧e 2=.t (B dn)∧e 3=.ref 0 1 0 0∧e 6=.ref 1 1 0 0∧e 8=.ms 3 o.length 0 o.length 5 false∧e 9=.t (I (n:Nat))∧e 10=.ref 4 1 0 0)∧x=.exit 2∧∃ c,h=swHp f w D o++[.row 5 [.t (brT c1 c2 c (putB b (gvL b (fgH P b j dn) P.length P.length)))] 1]) (s:=()) (by omega) ?_ ?_ (by omega) ⟨he,c3,by rw [qiU hh]; rfl⟩ ?_
 ·intro i p _ e h Y R' hm hi hx hget hlt hw ⟨hs,c,hh'⟩ hK
  subst hh'
  simp only [q01] at hK
  have hp:=hp48 p hm
  have gp:(b.ports.map I)[i]? = some (I (p:Nat)):=by rw [hP]; simp [hx,ofN]
  have hPx:P[i]?.getD 0=p:=by rw [hx]; rfl
  have v:IntKind.i64.wrap (Int.tdiv ((p:Nat):Int) 2)=((p / 2:Nat):Int):=by rw [tdiv2]; exact q09 (by omega) (by omega)
  have kF:=qiM c1 c2 c (putB b (gvL b (fgH P b j dn) P.length i)) i (by show i < (gvL _ _ _ _).length; rw [q6U]; exact hi) (by show (gvL _ _ _ _).length≤1000; rw [q6U]; omega)
  have hkeep:¬ (dn=true∧p / 2=j)→gvL b (fgH P b j dn) P.length i=gvL b (fgH P b j dn) P.length (i+1):=fun hc=>qiW (by rw [fgH,hPx,if_neg hc])
  have hset:(dn=true∧p / 2=j)→(gvL b (fgH P b j dn) P.length i).set i zH=gvL b (fgH P b j dn) P.length (i+1):=fun hc=>by rw [← qiV hi,fgH,hPx,if_pos hc]
  simp only [putB] at kF hK ⊢
  cases dn with
  | false =>
   rw [← hkeep (by simp)] at hK
   generalize gvL b (fgH P b j false) P.length i=LH at *
   (repeat' first|simp only [il26l0_go,il26l0b,go_sem,hs,hpl,hlt,hw,q0K]|with_reducible refine wX fun _=>?_|((with_reducible refine wY ?_ ?_); rfl)|fail)
   all_goals (refine hK _ _ ⟨?_,c,?_⟩ <;> first|(simp only [go_sem,hs,hw]; done)|rfl)
  | true =>
   by_cases hj:p / 2=j
   ·have d:decide (((p / 2:Nat):Int)=(j:Nat))=true:=decide_eq_true (by omega)
    rw [hset ⟨rfl,hj⟩] at kF
    generalize gvL b (fgH P b j true) P.length (i+1)=LH2 at *
    generalize gvL b (fgH P b j true) P.length i=LH at *
    (repeat' first|simp only [il26l0_go,il26l0b,go_sem,hs,gp,hpl,hlt,hw,v,d,kF,q0K]|with_reducible refine wX fun _=>?_|((with_reducible refine wY ?_ ?_); rfl)|fail)
    all_goals (refine hK _ _ ⟨?_,false,?_⟩ <;> first|(simp only [go_sem,hs,hw]; done)|rfl)
   ·have d:decide (((p / 2:Nat):Int)=(j:Nat))=false:=decide_eq_false (by omega)
    rw [← hkeep (fun hc=>hj hc.2)] at hK
    generalize gvL b (fgH P b j true) P.length i=LH at *
    (repeat' first|simp only [il26l0_go,il26l0b,go_sem,hs,gp,hpl,hlt,hw,v,d,q0K]|with_reducible refine wX fun _=>?_|((with_reducible refine wY ?_ ?_); rfl)|fail)
    all_goals (refine hK _ _ ⟨?_,c,?_⟩ <;> first|(simp only [go_sem,hs,hw]; done)|rfl)
 ·intro _ e h Y R' hlt ⟨hs,c,hh'⟩ hK
  subst hh'
  simp only [putB] at hK ⊢
  (repeat' first|simp only [il26l0_go,il26l0b,go_sem,hs,hpl,hlt]|with_reducible refine wX fun _=>?_|((with_reducible refine wY ?_ ?_); rfl)|fail)
  all_goals (refine hK _ _ _ ⟨?_,rfl,c,rfl⟩; simp only [go_sem,hs])
 ·intro x e h ⟨h1,h2,c,h3⟩
  subst h2 h3
  exact hR _ c h1
def sfR (w:Nw) (j:Nat) (dn:Bool) (n:Nat):Br:=putB (bxA w n).b ((List.range (trunkL w.t n).length).map (fgH (trunkL w.t n) (bxA w n).b j dn))
def sfX (w:Nw) (j:Nat) (dn:Bool) (n:Nat):Br:=if stA w.t n=true then (bxA w n).b else sfR w j dn n
theorem q6V (f:Fl) (w:Nw) (hO:NwOk w) (hz:∀ x∈w.bs,x.z=false) (hE:∀ n x,w.bs[n]? = some x→stA w.t n=true→emptyB x.b=true) (j:Nat) (hj:j < w.t.links.length) (dn:Bool):∃ bs2:List Bx,(bs2.length=w.bs.length∧∀ n x,bs2[n]? = some x→x.z=false∧x.b=sfX w j dn n) ∧
  ans Tryz.prog pol 26 [nwT f w,I (j:Nat),B dn]=some (nwT ⟨f.st,f.lk,f.pr,false,false⟩ ⟨w.t,w.prios,w.down.set j dn,bs2⟩):=by
 obtain ⟨z1,z2,z3⟩:=q06 hO.t
 have hbl:=hO.bl
 have hdl:=hO.dl
 have one:∀ n,n < w.bs.length→∃ c1 c2 c3,w.bs[n]? = some ⟨false,c1,c2,c3,(bxA w n).b⟩:=fun n hn=>by
  have hx:w.bs[n]? = some (w.bs[n]):=List.getElem?_eq_getElem hn
  have hzz:=hz _ (List.getElem_mem hn)
  refine ⟨w.bs[n].c1,w.bs[n].c2,w.bs[n].c3,?_⟩
  rw [hx]
  simp only [bxA,hx,Option.getD_some]
  rw [← hzz]
 generalize hN:w.bs.length=N at *
 obtain ⟨nn,hn⟩:∃ nn,1000 < nn+1:=⟨2000,by omega⟩
 suffices hh:∃ r,(∃ bs2:List Bx,(bs2.length=N∧∀ n x,bs2[n]? = some x→x.z=false∧x.b=sfX w j dn n)∧r=nwT ⟨f.st,f.lk,f.pr,false,false⟩ ⟨w.t,w.prios,w.down.set j dn,bs2⟩)∧ans Tryz.prog pol 26 [nwT f w,I (j:Nat),B dn]=some r by
  obtain ⟨r,⟨bs2,h1,rfl⟩,h2⟩:=hh
  exact ⟨bs2,h1,h2⟩
 obtain ⟨d0,ds,hds⟩:∃ d0 ds,w.down=d0::ds:=by
  cases hd:w.down with
  | nil=>rw [hd] at hdl; simp at hdl; omega
  | cons d ds=>exact ⟨d,ds,rfl⟩
 have hroomD:(ds.length+1)*1≤roomB:=q07 (by rw [hds] at hdl; simp at hdl; omega) (by omega)
 have hD':(w.down.set j dn).length=ds.length+1:=by rw [List.length_set,hds]; rfl
 have gj:(((w.down).map B).map AV.t)[j]? = some (.t (B (dnA w j))):=q0c (enc:=B) (by simp only [dnA]; rw [List.getElem?_eq_getElem (by omega)]; rfl)
 have sj:=map_set (enc:=B) (l:=w.down) (i:=j) (x:=dn)
 have hjl:j < ds.length+1:=by rw [hds] at hdl; simp at hdl; omega
 have hdc:((w.down).map B).map AV.t=.t (B d0)::(ds.map B).map .t:=by rw [hds]; rfl
 have hml:(w.down.map B)=B d0::ds.map B:=by rw [hds]; rfl
 rw [hdc] at gj sj
 refine q6S (nn+1) 1 il26_eq (Nat.le_of_ble_eq_true rfl) ?_
 (repeat' first|simp only [il26c,go_sem,hml,hroomD,gj,sj,hjl,hD']|with_reducible refine wX fun _=>?_|((with_reducible refine wY ?_ ?_); rfl)|fail)
 rw [← hD']
 clear gj sj hD' hml hdc hroomD hjl
 generalize w.down.set j dn=D at *
 refine q0D N (step:=fun n (_:Unit)=>Ctl.go ()) (fin:=id)
  (St:=fun n _ e h=>∃ o:List Bx,(e 1=.t (I (j:Nat))∧e 2=.t (B dn)∧e 3=.ref 0 1 0 0∧e 6=.ref 1 1 0 0∧e 8=.ms 3 o.length 0 o.length 5 false∧e 9=.t (I (n:Nat)))∧(o.length=n∧∀ m x,o[m]? = some x→x.z=false∧x.b=sfX w j dn m)∧h=swHp f w D o)
  (Ex:=fun _ x e h=>∃ o:List Bx,(e 3=.ref 0 1 0 0∧e 6=.ref 1 1 0 0∧e 8=.ms 3 o.length 0 o.length 5 false)∧x=.exit 0∧(o.length=N∧∀ m x,o[m]? = some x→x.z=false∧x.b=sfX w j dn m)∧h=swHp f w D o) (s:=()) (by omega) ?_ ?_ (by omega) ?_ ?_
 ·intro n _ e h Y R hi hlt hw ⟨o,hs,⟨ho,hgood⟩,hh⟩ hk
  subst hh
  simp only [q01] at hk
  rw [hbl] at hlt
  obtain ⟨c1,c2,c3,hb⟩:=one n hi
  have gb:(w.bs.map encX)[n]? = some (brT c1 c2 c3 (bxA w n).b):=by rw [List.getElem?_map,hb]; rfl
  have hroom:(o.length+1)*88≤roomB:=q07 (by omega) (by omega)
  have is1:rowIs 5 o.length (some (rowG 5 encX o)):=q0l
  have push:∀ (x:Bx),x.z=false→x.b=sfX w j dn n→((o++[x]).length=n+1∧∀ m y,(o++[x])[m]? = some y→y.z=false∧y.b=sfX w j dn m):=fun x hx1 hx2=>by
   refine ⟨by simp [ho],fun m y hy=>?_⟩
   rw [List.getElem?_append] at hy
   split at hy
   ·exact hgood m y hy
   ·rename_i hm
    have hm0:m=n:=by
     have:=(List.getElem?_eq_some_iff.1 hy).1
     simp at this
     omega
    subst hm0
    rw [ho,Nat.sub_self] at hy
    cases hy
    exact ⟨hx1,hx2⟩
  obtain ⟨P,hP,hPl,hp48,hhl,hsf⟩:∃ P:List Nat,(bxA w n).b.ports=P.map ofN∧P.length≤24∧(∀ p∈P,p≤1000)∧(bxA w n).b.heard.length=P.length∧putB (bxA w n).b (gvL (bxA w n).b (fgH P (bxA w n).b j dn) P.length P.length)=sfX w j dn n:=by
   cases hst:stA w.t n with
   | true =>
    obtain ⟨_,e2,e3,e4⟩:=of_decide_eq_true (hE n _ hb hst)
    dsimp only at e2 e3 e4
    refine ⟨[],List.eq_nil_of_length_eq_zero e2,by simp,(fun p hp=>by cases hp),e4,?_⟩
    rw [sfX,if_pos hst]
    have h0:=List.eq_nil_of_length_eq_zero e4
    generalize (bxA w n).b=b at *
    obtain ⟨p,q,ports,costs,heard⟩:=b
    dsimp only at h0
    subst h0
    rfl
   | false =>
    obtain ⟨_,xv⟩:=hO.vb.2 n _ hb hst
    dsimp only at xv
    have hok2:=q0j xv.ok
    simp only [okL] at hok2
    have hpl2:(bxA w n).b.ports.length=(trunkL w.t n).length:=by rw [xv.ports,List.length_map]
    refine ⟨trunkL w.t n,xv.ports,q0J hO.t _,fun p hp=>by have:=q1c hp; omega,by omega,?_⟩
    rw [sfX,if_neg (by rw [hst]; simp),sfR]
    congr 1
    rw [gvL]
    refine List.map_congr_left (fun q hq=>?_)
    rw [if_pos (List.mem_range.1 hq)]
  have hl0:=qiX f w D o n j dn c1 c2 c3 (bxA w n).b P hP hPl hp48 hhl 1 (nn+1) hn
  rw [hsf] at hl0
  clear hsf hP hp48 hhl
  have hpu:=fun c=>q1N (k:=5) (enc:=encX) (l:=o) (x:=⟨false,c1,c2,c,sfX w j dn n⟩)
  have hgo:=fun c=>push ⟨false,c1,c2,c,sfX w j dn n⟩ rfl rfl
  have ex:∀ c,encX ⟨false,c1,c2,c,sfX w j dn n⟩=brT c1 c2 c (sfX w j dn n):=fun c=>rfl
  simp only [ex] at hpu
  generalize sfX w j dn n=SB at *
  generalize (bxA w n).b=b at *
  (repeat' first|simp only [il26l1_go,il26l1b,go_sem,hs,hlt,gb]|with_reducible refine wX fun _=>?_|((with_reducible refine wY ?_ ?_); rfl)|fail)
  refine hl0 _ _ (by simp only [go_sem,hs]) ?_
  intro e1 c he1
  have hpu:=hpu c
  (repeat' first|simp only [il26l1_go,il26l1b,swHp,List.cons_append,List.nil_append,go_sem,he1,hw,hroom,is1,q0o,q0p,hpu,q0K]|with_reducible refine wX fun _=>?_|((with_reducible refine wY ?_ ?_); rfl)|fail)
  all_goals (refine hk _ _ ⟨_,?_,hgo c,?_⟩ <;> first|(simp only [go_sem,he1,hw,List.length_append]; done)|simp [swHp])
 ·intro _ e h Y R hlt ⟨o,hs,hgood,hh⟩ hk
  subst hh
  have hlt:decide ((N:Int) < w.t.nodes)=false:=by rw [← hbl]; exact hlt
  (repeat' first|simp only [il26l1_go,il26l1b,go_sem,hs,hlt]|with_reducible refine wX fun _=>?_|((with_reducible refine wY ?_ ?_); rfl)|fail)
  all_goals (refine hk _ _ _ ⟨o,?_,rfl,hgood,rfl⟩; simp only [go_sem,hs])
 ·refine ⟨[],?_,⟨rfl,fun m x h=>by simp at h⟩,rfl⟩
  simp only [go_sem]
 ·intro x e h ⟨o,h1,h2,hgood,h3⟩
  subst h2 h3
  have is1:rowIs 5 o.length (some (rowG 5 encX o)):=q0l
  have hDl:((D.map B).map AV.t).length=D.length:=by simp
  (repeat' first|simp only [il26c,go_sem,h1]|with_reducible refine wX fun _=>?_|((with_reducible refine wY ?_ ?_); rfl)|fail)
  refine ⟨_,⟨o,hgood,rfl⟩,?_⟩
  simp only [go_sem,is1,q0o,q0p,hDl]
end Go.Proofs.YtbibdnlbpjnieaaGreat
namespace Go.Proofs.YtbibdnlbpjnieaaGreat
open Go Go.Abs
theorem qiY {w:Nw} (hok:okN w=true) (hz:∀ x∈w.bs,x.z=false):VN w:=by
 have hzk:zOk w:=fun n hn h=>by
  have hm:bxA w n∈w.bs:=by rw [bxA,List.getElem?_eq_getElem hn]; exact List.getElem_mem hn
  rw [hz _ hm] at h; cases h
 have hO:=q0I hok hzk
 have hs:∀ n,n < w.bs.length→soundN w n=true:=by
  simp only [okN,Bool.and_eq_true] at hok
  exact fun n hn=>List.all_eq_true.1 hok.2.2.2.2 n (List.mem_range.2 hn)
 refine ⟨hO.t,hO.rank,hO.bl,hO.dl,hO.vb,fun q hq hd=>?_,fun n x hx hst=>?_⟩
 ·obtain ⟨n,x,h1,h2,h3,h4,h5,h6,h7,h8⟩:=q0T hO.t hO.bl hO.vb hq
  have hbx:bxA w n=x:=by simp [bxA,h3]
  have hsn:=hs n h2
  have hst:stA w.t n=false:=by have:=hq.2.1; rwa [h1,Int.toNat_natCast] at this
  rw [soundN,hst,if_neg (by simp),hbx] at hsn
  simp only [Bool.and_eq_true] at hsn
  have hqu:=hsn.2.2.2.2
  obtain ⟨i1,i2,_⟩:=q0R (q0S hq)
  rw [h1] at i1 i2
  have:=List.all_eq_true.1 hqu (ixP w.t q) (List.mem_range.2 i1)
  rw [i2,Option.getD_some,hd,Bool.true_and] at this
  rw [hAt,h1,Int.toNat_natCast,h4]
  simpa using this
 ·have hn:n < w.bs.length:=(List.getElem?_eq_some_iff.1 hx).1
  have hbx:bxA w n=x:=by simp [bxA,hx]
  have hsn:=hs n hn
  rw [soundN,hst,if_pos rfl,hbx] at hsn
  refine ⟨hsn,fun h=>?_⟩
  rw [hz x (List.mem_of_getElem? hx)] at h; cases h
theorem q3N {w:Nw} (h:VN w) (hz:∀ x∈w.bs,x.z=false) {bs1 bs2:List Bx} (v1:vBs w bs1) (s1:∀ n,stA w.t n=true→bs1[n]? = (w.bs.map cpX)[n]?) {G:Nat→Hd} (g1:∀ q,trP w.t q→hAt w.t bs1 q=G q)
  {fb:Nat→Br} (l2:bs2.length=w.bs.length) (f2:∀ n x,bs2[n]? = some x→x.z=false∧x.b=fb n) (fs:∀ n,n < w.bs.length→stA w.t n=true→fb n=(bxA w n).b)
  (fr:∀ n,n < w.bs.length→stA w.t n=false→fb n=putB (bxA w n).b ((List.range (trunkL w.t n).length).map (fun i=>G ((trunkL w.t n)[i]?.getD 0)))):smallB bs1∧sameB bs1 bs2:=by
 obtain ⟨z1,z2,z3⟩:=q06 h.t
 have hbl:=h.bl
 have key:∀ (n:Nat) (x:Bx),bs1[n]? = some x→ctX x=fb n∧((fb n).ports.length≤1000∧(fb n).costs.length≤1000∧(fb n).heard.length≤1000):=by
  intro n x hx
  have hn:n < w.bs.length:=by rw [← v1.1]; exact (List.getElem?_eq_some_iff.1 hx).1
  have hy:w.bs[n]? = some (w.bs[n]):=List.getElem?_eq_getElem hn
  have hbx:bxA w n=w.bs[n]:=by simp [bxA,hy]
  have hyz:=hz _ (List.getElem_mem hn)
  cases hst:stA w.t n with
  | true =>
   rw [s1 n hst,List.getElem?_map,hy,Option.map_some,Option.some.injEq] at hx
   rw [fs n hn hst,← hx,hbx,cpX,if_neg (by rw [hyz]; simp)]
   obtain ⟨_,e2,e3,e4⟩:=of_decide_eq_true (h.st n _ hy hst).1
   exact ⟨rfl,by omega,by omega,by omega⟩
  | false =>
   obtain ⟨xz,xv⟩:=v1.2 n x hx hst
   obtain ⟨_,yv⟩:=h.vb.2 n _ hy hst
   rw [← hbx] at yv
   have hok:=q0j xv.ok
   simp only [okL] at hok
   have hpl:x.b.ports.length=(trunkL w.t n).length:=by rw [xv.ports,List.length_map]
   have h24:=q0J h.t (n:Nat)
   have hcl:(bxA w n).b.costs.length=(trunkL w.t n).length:=by rw [yv.costs]; simp [costL]
   have hpl2:(bxA w n).b.ports.length=(trunkL w.t n).length:=by rw [yv.ports,List.length_map]
   have hh:x.b.heard=(List.range (trunkL w.t n).length).map (fun i=>G ((trunkL w.t n)[i]?.getD 0)):=by
    refine List.ext_getElem (by simp; omega) (fun i h1 h2=>?_)
    have hi:i < (trunkL w.t n).length:=by omega
    rw [List.getElem_map,List.getElem_range,List.getElem?_eq_getElem hi,Option.getD_some]
    have htp:=q1B hst (List.getElem_mem hi)
    rw [← g1 _ htp,hAt,q1e (n:=n) (i:=i) (by rw [List.getElem?_eq_getElem hi])]
    have hf:=(qja.1 (List.getElem_mem hi)).2.1
    rw [hf,Int.toNat_natCast,bsA,hx,Option.getD_some,hrd,List.getElem?_eq_getElem h1,Option.getD_some]
   rw [fr n hn hst,ctX,if_neg (by rw [xz]; simp)]
   refine ⟨?_,by show (bxA w n).b.ports.length≤_; omega,by show (bxA w n).b.costs.length≤_; omega,by simp [putB]; omega⟩
   have q1:=xv.ip.trans yv.ip.symm
   have q2:=xv.id.trans yv.id.symm
   have q3:=xv.ports.trans yv.ports.symm
   have q4:=xv.costs.trans yv.costs.symm
   generalize (bxA w n).b=Y at *
   generalize x.b=X at *
   obtain ⟨a1,a2,a3,a4,a5⟩:=X
   dsimp only at q1 q2 q3 q4 hh
   rw [q1,q2,q3,q4,hh]
   rfl
 refine ⟨⟨by rw [v1.1]; omega,fun x hx=>?_⟩,by rw [v1.1,l2],fun n x y hx hy=>?_⟩
 ·obtain ⟨n,hn,rfl⟩:=List.getElem_of_mem hx
  obtain ⟨k1,k2⟩:=key n _ (List.getElem?_eq_getElem hn)
  rw [k1]; exact k2
 ·obtain ⟨f1,f3⟩:=f2 n y hy
  rw [(key n x hx).1,← f3,ctX,if_neg (by rw [f1]; simp)]
theorem qiZ (bs:List Bx) (n:Nat):bsA (bs.map cpX) n=bsA bs n:=by
 rw [bsA,bsA,List.getElem?_map]
 cases bs[n]? with
 | none=>rfl
 | some x =>
  simp only [Option.map_some,Option.getD_some,cpX]
  split <;> rfl
theorem qj0 (t:Tpo) (bs:List Bx) (q:Nat):sntP t (bs.map cpX) q=sntP t bs q:=by rw [sntP,sntP,qiZ]
section
variable {w:Nw} (h:VN w) (hz:∀ x∈w.bs,x.z=false)
include h hz
theorem qj1 {bs2:List Bx} (l2:bs2.length=w.bs.length) (f2:∀ n x,bs2[n]? = some x→x.z=false∧x.b=rfR w n):smallB (rndL w (w.bs.map cpX))∧sameB (rndL w (w.bs.map cpX)) bs2:=by
 obtain ⟨r1,r2,r3⟩:=q6t h.t h.bl (q1A h.vb)
 refine q3N h hz r1 r2 (G:=fun q=>tickH (if (sntP w.t w.bs (bk q)).is=true∧dnA w (q / 2)=false then rcvH (hAt w.t w.bs q) (sntP w.t w.bs (bk q)) else hAt w.t w.bs q)) (fun q hq=>?_) l2 f2 (fun n hn hst=>?_) (fun n hn hst=>?_)
 ·rw [r3 q hq,qj0,q2z]
 ·have hy:w.bs[n]? = some (w.bs[n]):=List.getElem?_eq_getElem hn
  have hbx:bxA w n=w.bs[n]:=by simp [bxA,hy]
  obtain ⟨_,e2,e3,e4⟩:=of_decide_eq_true (h.st n _ hy hst).1
  rw [← hbx] at e2 e4
  have e4:=List.eq_nil_of_length_eq_zero e4
  rw [rfR,e2]
  generalize (bxA w n).b=b at *
  obtain ⟨a1,a2,a3,a4,a5⟩:=b
  dsimp only at e4
  subst e4
  rfl
 ·have hy:w.bs[n]? = some (w.bs[n]):=List.getElem?_eq_getElem hn
  have hbx:bxA w n=w.bs[n]:=by simp [bxA,hy]
  obtain ⟨_,yv⟩:=h.vb.2 n _ hy hst
  rw [← hbx] at yv
  rw [rfR,show (bxA w n).b.ports.length=(trunkL w.t n).length by rw [yv.ports,List.length_map]]
  congr 1
  refine List.map_congr_left (fun i hi=>?_)
  have hi:=List.mem_range.1 hi
  rw [List.getElem?_eq_getElem hi,Option.getD_some]
  have hf:=(qja.1 (List.getElem_mem hi)).2.1
  rw [rvH,List.getElem?_eq_getElem hi,Option.getD_some,hAt,hf,Int.toNat_natCast,q1e (n:=n) (i:=i) (by rw [List.getElem?_eq_getElem hi])]
  rfl
theorem q6W {j:Nat} {dn:Bool} {n:Nat} (hst:stA w.t n=true):sfX w j dn n=(bxA w n).b:=by rw [sfX,if_pos hst]
theorem qj2 {j:Nat} {bs2:List Bx} (l2:bs2.length=w.bs.length) (f2:∀ n x,bs2[n]? = some x→x.z=false∧x.b=sfX w j true n):smallB (cutL w j)∧sameB (cutL w j) bs2:=by
 obtain ⟨r1,r2,r3⟩:=q6w h j
 refine q3N h hz r1 r2 (G:=fun q=>if q / 2=j then zH else hAt w.t w.bs q) r3 l2 f2 (fun n hn hst=>q6W h hz hst) (fun n hn hst=>?_)
 rw [sfX,if_neg (by rw [hst]; simp),sfR]
 congr 1
 refine List.map_congr_left (fun i hi=>?_)
 have hi:=List.mem_range.1 hi
 have hf:=(qja.1 (List.getElem_mem hi)).2.1
 rw [fgH,List.getElem?_eq_getElem hi,Option.getD_some,hAt,hf,Int.toNat_natCast,q1e (n:=n) (i:=i) (by rw [List.getElem?_eq_getElem hi])]
 simp only [true_and]
 rfl
theorem qj3 {j:Nat} {bs2:List Bx} (l2:bs2.length=w.bs.length) (f2:∀ n x,bs2[n]? = some x→x.z=false∧x.b=sfX w j false n):smallB (w.bs.map cpX)∧sameB (w.bs.map cpX) bs2:=by
 refine q3N h hz (q1A h.vb) (fun n _=>rfl) (G:=fun q=>hAt w.t w.bs q) (fun q _=>q2z w.t w.bs q) l2 f2 (fun n hn hst=>q6W h hz hst) (fun n hn hst=>?_)
 rw [sfX,if_neg (by rw [hst]; simp),sfR]
 congr 1
 refine List.map_congr_left (fun i hi=>?_)
 have hi:=List.mem_range.1 hi
 have hf:=(qja.1 (List.getElem_mem hi)).2.1
 rw [fgH,if_neg (by simp),List.getElem?_eq_getElem hi,Option.getD_some,hAt,hf,Int.toNat_natCast,q1e (n:=n) (i:=i) (by rw [List.getElem?_eq_getElem hi])]
 rfl
end
theorem qj4 (f:Fl) (w0:Nw) (hz0:∀ x∈w0.bs,x.z=false) (k:Int):ans Tryz.prog pol 5 [nwT f w0,I k]=some (B true):=by
 have k0:=qiC
 obtain ⟨f,w,hL,kl⟩:=qiE f w0 hz0
 have hz:=hL.z
 have hzk:zOk w:=fun n hn h=>by
  have hm:bxA w n∈w.bs:=by rw [bxA,List.getElem?_eq_getElem hn]; exact List.getElem_mem hn
  rw [hz _ hm] at h; cases h
 have l1:=hL.pr
 have l2:=hL.bs
 have kR:=qiH f w hz (by omega) (by omega) (fun x hx=>by have:=hL.b x hx; omega)
 have kC:=q0F f w hzk (by omega) (by omega)
 cases hok:okN w with
 | false =>
  rw [hok] at kR
  rw [if_neg (by rw [hok]; simp)] at kC
  have k1:=qhF f w hzk (by omega) (by omega) hok
  have k2:=qhP f w k hzk (by omega) (by omega) hok
  have k3:=qhH f w k hzk (by omega) (by omega) hok
  have kF:=q6O 300
  clear hL hz hzk l1 l2
  refine q00 1 1 il5_eq (Nat.le_of_ble_eq_true rfl) ?_
  (repeat' first|simp only [il5c,go_sem,k0,kl,kR,kC,k1,k2,k3,kF]|with_reducible refine wX fun _=>?_|((with_reducible refine wY ?_ ?_); rfl)|fail)
 | true =>
  rw [hok] at kR
  rw [if_pos hok] at kC
  have h:=qiY hok hz
  have hO:=q0I hok hzk
  obtain ⟨z1,z2,z3⟩:=q06 h.t
  have hE:∀ n x,w.bs[n]? = some x→stA w.t n=true→emptyB x.b=true:=fun n x hx hs=>(h.st n x hx hs).1
  have k1:=q6m f w hzk hok h.b6
  obtain ⟨b1,⟨b11,b12⟩,kR1⟩:=qiT f w hO hz hE
  obtain ⟨s1,s2⟩:=qj1 h hz b11 b12
  have hdl:=h.dl
  have hpl:=q0A h.rank
  have kL1:=q3K ⟨false,false,false,false,true⟩ ⟨f.st,f.lk,f.pr,f.dn,false⟩ ⟨w.t,w.prios,w.down,rndL w (w.bs.map cpX)⟩ ⟨w.t,w.prios,w.down,b1⟩ rfl rfl rfl (by dsimp only; omega) (by dsimp only; omega) (by dsimp only; omega) (by dsimp only; omega) s1 s2
  clear s1 s2 b11 b12
  by_cases hk:0≤k∧k < (w.t.links.length:Nat)
  ·obtain ⟨j,rfl⟩:∃ j:Nat,k=(j:Nat):=⟨k.toNat,by omega⟩
   have hj:j < w.t.links.length:=by omega
   have d1:decide (((j:Nat):Int) < 0)=false:=decide_eq_false (by omega)
   have d2:decide (((w.t.links.length:Nat):Int)≤(j:Nat))=false:=decide_eq_false (by omega)
   have k2:=q6q f w hzk hok j hj h.b6
   have k3:=qhJ f w hzk hok j hj h.b6
   obtain ⟨b2,⟨b21,b22⟩,kS2⟩:=q6V f w hO hz hE j hj true
   obtain ⟨b3,⟨b31,b32⟩,kS3⟩:=q6V f w hO hz hE j hj false
   obtain ⟨s1,s2⟩:=qj2 h hz b21 b22
   obtain ⟨s3,s4⟩:=qj3 h hz b31 b32
   have kL2:=q3K ⟨false,false,false,false,true⟩ ⟨f.st,f.lk,f.pr,false,false⟩ ⟨w.t,w.prios,w.down.set j true,cutL w j⟩ ⟨w.t,w.prios,w.down.set j true,b2⟩ rfl rfl rfl (by dsimp only; omega) (by dsimp only; omega) (by dsimp only; omega) (by simp; omega) s1 s2
   have kL3:=q3K ⟨false,false,false,false,true⟩ ⟨f.st,f.lk,f.pr,false,false⟩ ⟨w.t,w.prios,w.down.set j false,w.bs.map cpX⟩ ⟨w.t,w.prios,w.down.set j false,b3⟩ rfl rfl rfl (by dsimp only; omega) (by dsimp only; omega) (by dsimp only; omega) (by simp; omega) s3 s4
   clear s1 s2 s3 s4 b21 b22 b31 b32 hL hz hzk hE hO h
   generalize rndL w (w.bs.map cpX)=R1 at *
   generalize cutL w j=R2 at *
   generalize w.bs.map cpX=R3 at *
   generalize w.down.set j true=D2 at *
   generalize w.down.set j false=D3 at *
   refine q00 1 1 il5_eq (Nat.le_of_ble_eq_true rfl) ?_
   (repeat' first|simp only [il5c,go_sem,k0,kl,kR,kC,k1,k2,k3,kR1,kL1,kS2,kS3,kL2,kL3,d1,d2]|with_reducible refine wX fun _=>?_|((with_reducible refine wY ?_ ?_); rfl)|fail)
  ·have k2:=q6p f w k hzk hok (by omega)
   have k3:=qhI f w k hzk hok (by omega)
   have kF:=q6O 2
   clear hL hz hzk hE hO h
   generalize rndL w (w.bs.map cpX)=R1 at *
   by_cases d:k < 0
   ·have d1:=decide_eq_true d
    refine q00 1 1 il5_eq (Nat.le_of_ble_eq_true rfl) ?_
    (repeat' first|simp only [il5c,go_sem,k0,kl,kR,kC,k1,k2,k3,kR1,kL1,kF,d1]|with_reducible refine wX fun _=>?_|((with_reducible refine wY ?_ ?_); rfl)|fail)
   ·have d1:=decide_eq_false d
    have d2:decide (((w.t.links.length:Nat):Int)≤k)=true:=decide_eq_true (by omega)
    refine q00 1 1 il5_eq (Nat.le_of_ble_eq_true rfl) ?_
    (repeat' first|simp only [il5c,go_sem,k0,kl,kR,kC,k1,k2,k3,kR1,kL1,kF,d1,d2]|with_reducible refine wX fun _=>?_|((with_reducible refine wY ?_ ?_); rfl)|fail)
end Go.Proofs.YtbibdnlbpjnieaaGreat
namespace Go.Proofs.YtbibdnlbpjnieaaGreat
open Go Go.Abs
theorem qj5 {x:T} (f:FitE Tryz.prog 3 x):∃ a,x=I a:=by
 obtain ⟨n0,rfl,w0⟩:=q36 (l:=.int .i64) (by kernel_rfl) (by kernel_rfl) f
 exact ⟨n0,rfl⟩
theorem ints {xs:List T} (h:∀ y∈xs,FitE Tryz.prog 3 y):∃ l,xs=List.map I l:=q2i (fun y hy=>qj5 (h y hy))
theorem qj6 {x:T} (f:FitE Tryz.prog 4 x):∃ a,x=B a:=by
 obtain ⟨b0,rfl⟩:=q36 (l:=.bool) (by kernel_rfl) (by kernel_rfl) f
 exact ⟨b0,rfl⟩
theorem bools {xs:List T} (h:∀ y∈xs,FitE Tryz.prog 4 y):∃ l,xs=List.map B l:=q2i (fun y hy=>qj6 (h y hy))
theorem qj7 {x:T} (f:FitE Tryz.prog 70 x):∃ a,x=encK a:=by
 obtain ⟨c,rfl,g⟩:=q2e (ls:=[.int .i64,.int .i64,.int .i64,.int .i64]) (by kernel_rfl) (by kernel_rfl) f
 obtain ⟨y0,q0,rfl,v0,g⟩:=q0h g
 obtain ⟨y1,q1,rfl,v1,g⟩:=q0h g
 obtain ⟨y2,q2,rfl,v2,g⟩:=q0h g
 obtain ⟨y3,q3,rfl,v3,g⟩:=q0h g
 obtain rfl:=q1L g
 obtain ⟨n0,rfl,w0⟩:=v0
 obtain ⟨n1,rfl,w1⟩:=v1
 obtain ⟨n2,rfl,w2⟩:=v2
 obtain ⟨n3,rfl,w3⟩:=v3
 exact ⟨⟨n0,n1,n2,n3⟩,rfl⟩
theorem links {xs:List T} (h:∀ y∈xs,FitE Tryz.prog 70 y):∃ l,xs=List.map encK l:=q2i (fun y hy=>qj7 (h y hy))
theorem qj8 {x:T} (f:FitE Tryz.prog 89 x):∃ a,x=encH a:=by
 obtain ⟨c,rfl,g⟩:=q2e (ls:=[.bool,.int .i64,.int .i64,.int .i64,.int .i64,.int .i64,.int .i64,.int .i64]) (by kernel_rfl) (by kernel_rfl) f
 obtain ⟨y0,q0,rfl,v0,g⟩:=q0h g
 obtain ⟨y1,q1,rfl,v1,g⟩:=q0h g
 obtain ⟨y2,q2,rfl,v2,g⟩:=q0h g
 obtain ⟨y3,q3,rfl,v3,g⟩:=q0h g
 obtain ⟨y4,q4,rfl,v4,g⟩:=q0h g
 obtain ⟨y5,q5,rfl,v5,g⟩:=q0h g
 obtain ⟨y6,q6,rfl,v6,g⟩:=q0h g
 obtain ⟨y7,q7,rfl,v7,g⟩:=q0h g
 obtain rfl:=q1L g
 obtain ⟨b0,rfl⟩:=v0
 obtain ⟨n1,rfl,w1⟩:=v1
 obtain ⟨n2,rfl,w2⟩:=v2
 obtain ⟨n3,rfl,w3⟩:=v3
 obtain ⟨n4,rfl,w4⟩:=v4
 obtain ⟨n5,rfl,w5⟩:=v5
 obtain ⟨n6,rfl,w6⟩:=v6
 obtain ⟨n7,rfl,w7⟩:=v7
 exact ⟨⟨b0,n1,n2,n3,n4,n5,n6,n7⟩,rfl⟩
theorem heards {xs:List T} (h:∀ y∈xs,FitE Tryz.prog 89 y):∃ l,xs=List.map encH l:=q2i (fun y hy=>qj8 (h y hy))
theorem qj9 {x:T} (f:FitE Tryz.prog 65 x):∃ a,x=encX a∧(fun x:Bx=>x.z=false) a:=by
 obtain ⟨c,rfl,g⟩:=q2e (ls:=[.int .i64,.int .i64,.sl 1 3,.sl 1 3,.sl 8 89]) (by kernel_rfl) (by kernel_rfl) f
 obtain ⟨y0,q0,rfl,v0,g⟩:=q0h g
 obtain ⟨y1,q1,rfl,v1,g⟩:=q0h g
 obtain ⟨y2,q2,rfl,v2,g⟩:=q0h g
 obtain ⟨y3,q3,rfl,v3,g⟩:=q0h g
 obtain ⟨y4,q4,rfl,v4,g⟩:=q0h g
 obtain rfl:=q1L g
 obtain ⟨n0,rfl,w0⟩:=v0
 obtain ⟨n1,rfl,w1⟩:=v1
 obtain ⟨l2,rfl,k2,e2⟩:=v2
 obtain ⟨l3,rfl,k3,e3⟩:=v3
 obtain ⟨l4,rfl,k4,e4⟩:=v4
 obtain ⟨a2,rfl⟩:=ints e2
 obtain ⟨a3,rfl⟩:=ints e3
 obtain ⟨a4,rfl⟩:=heards e4
 exact ⟨⟨false,false,false,false,⟨n0,n1,a2,a3,a4⟩⟩,rfl,rfl⟩
theorem bridges {xs:List T} (h:∀ y∈xs,FitE Tryz.prog 65 y):∃ l,xs=List.map encX l∧∀ a∈l,(fun x:Bx=>x.z=false) a:=q5B (fun y hy=>qj9 (h y hy))
end Go.Proofs.YtbibdnlbpjnieaaGreat
