/- Part 17 of the proof of TreeTells. -/
import Derived.Test.YtbibdnlbpjnieaaGreatT16
set_option linter.all false
set_option maxRecDepth 100000
set_option maxHeartbeats 4000000
namespace Go.Proofs.YtbibdnlbpjnieaaGreat
open Go Go.Abs
theorem q1b (c c':Bool) (a b:List (Int)) (hl:a.length≤1000000):ans Tryz.prog pol 19 [.sl c 1 (a.map I),.sl c' 1 (b.map I)]=some (B (decide (a=b))):=by
 refine q00 (a.length+1) 1 il19_eq (Nat.le_of_ble_eq_true rfl) ?_
 by_cases hlen:a.length=b.length
 ·have d0:decide ((a.length:Int)=(b.length:Int))=true:=decide_eq_true (by omega)
  (repeat' first|simp only [il19c,go_sem,d0]|with_reducible refine wX fun _=>?_|((with_reducible refine wY ?_ ?_); rfl)|fail)
  refine q06 a I (step:=fun i x (_:Unit)=>if b[i]? = some x then Ctl.go () else Ctl.out false) (fin:=fun _=>true) (St:=fun i s e h=>h=[]∧e 0=.t (.sl c 1 (a.map I))∧e 1=.t (.sl c' 1 (b.map I))∧e 12=.t (I (a.length:Nat))∧e 13=.t (I (i:Nat)))
   (Ex:=fun r x e h=>r=true∧x=.exit 0∨r=false∧x=.ret∧e 4=.t (B false)) (s:=()) (by omega) ?_ ?_ (by omega) ?_ ?_
  ·intro i x s e h Y R hm hi hx hget hlt hw ⟨h0,hs⟩ hk
   subst h0
   obtain ⟨y,hy⟩:∃ y,b[i]? = some y:=⟨b[i],by simp⟩
   have hgb:(b.map I)[i]? = some (I y):=by simp [hy]
   by_cases hxy:x=y
   ·have hd:(decide (x=y))=true:=decide_eq_true hxy
    simp only [hy,hxy,if_true,q01] at hk
    (repeat' first|simp only [il19l0_go,il19l0b,go_sem,hs,hget,hgb,hlt,hw,hd]|with_reducible refine wX fun _=>?_|((with_reducible refine wY ?_ ?_); rfl)|fail)
    all_goals (refine hk _ _ ?_; simp only [go_sem,hs,hw])
   ·have hd:(decide (x=y))=false:=decide_eq_false hxy
    rw [if_neg (by rw [hy]; intro h; exact hxy (Option.some.inj h).symm),q04] at hk
    (repeat' first|simp only [il19l0_go,il19l0b,go_sem,hs,hget,hgb,hlt,hw,hd]|with_reducible refine wX fun _=>?_|((with_reducible refine wY ?_ ?_); rfl)|fail)
    all_goals (refine hk _ _ _ (.inr ?_); simp only [go_sem])
  ·intro s e h Y R hlt ⟨h0,hs⟩ hk
   subst h0
   (repeat' first|simp only [il19l0_go,il19l0b,go_sem,hs,hlt]|with_reducible refine wX fun _=>?_|((with_reducible refine wY ?_ ?_); rfl)|fail)
   all_goals (refine hk _ _ _ (.inl ?_); simp only [go_sem])
  ·simp only [go_sem]
  ·intro x e h hx
   rw [q2p b a 0 b (by simp) hlen] at hx
   rcases hx with ⟨hx,rfl⟩|⟨hx,rfl,e4⟩
   ·(repeat' first|simp only [il19c,go_sem,hx]|with_reducible refine wX fun _=>?_|((with_reducible refine wY ?_ ?_); rfl)|fail)
   ·(repeat' first|simp only [il19c,go_sem,e4,hx]|with_reducible refine wX fun _=>?_|((with_reducible refine wY ?_ ?_); rfl)|fail)
 ·have d0:decide ((a.length:Int)=(b.length:Int))=false:=decide_eq_false (by omega)
  have d1:decide (a=b)=false:=decide_eq_false (fun h=>hlen (by rw [h]))
  (repeat' first|simp only [il19c,go_sem,d0,d1]|with_reducible refine wX fun _=>?_|((with_reducible refine wY ?_ ?_); rfl)|fail)
structure Bx where
 z:Bool
 c1:Bool
 c2:Bool
 c3:Bool
 b:Br
def zBr:Br:=⟨0,0,[],[],[]⟩
def bxC (x:Bx):List T:=if x.z=true then [I 0,I 0,.sc (.slice none 0 0),.sc (.slice none 0 0),.sc (.slice none 0 0)] else brC x.c1 x.c2 x.c3 x.b
def encX (x:Bx):T:=.agg (bxC x)
def zBx:Bx:=⟨true,false,false,false,zBr⟩
structure Fl where
 st:Bool
 lk:Bool
 pr:Bool
 dn:Bool
 bs:Bool
structure Nw where
 t:Tpo
 prios:List Int
 down:List Bool
 bs:List Bx
abbrev nwC (f:Fl) (w:Nw):List T:=[I w.t.nodes,.sl f.st 1 (w.t.station.map B),.sl f.lk 4 (w.t.links.map encK),.sl f.pr 1 (w.prios.map I),.sl f.dn 1 (w.down.map B),.sl f.bs 5 (w.bs.map encX)]
abbrev nwT (f:Fl) (w:Nw):T:=.agg (nwC f w)
def prA (w:Nw) (n:Nat):Int:=w.prios[n]?.getD 0
def dnA (w:Nw) (i:Nat):Bool:=w.down[i]?.getD false
def bxA (w:Nw) (n:Nat):Bx:=w.bs[n]?.getD zBx
def rankL (t:Tpo) (l:List Int):Bool:=decide ((l.length:Int)=t.nodes) && l.all (fun p=>decide (0≤p∧p≤15))
theorem q6m (c c1 c2:Bool) (t:Tpo) (l:List Int) (hl:l.length≤900):ans Tryz.prog pol 29 [tpT c1 c2 t,.sl c 1 (l.map I)]=some (B (rankL t l)):=by
 refine q00 1000 1 il29_eq (Nat.le_of_ble_eq_true rfl) ?_
 by_cases h:(l.length:Int)=t.nodes
 rotate_left
 ·have d:=decide_eq_false h
  have hr:rankL t l=false:=by rw [rankL,d,Bool.false_and]
  rw [hr]
  (repeat' first|simp only [il29c,go_sem,d]|with_reducible refine wX fun _=>?_|((with_reducible refine wY ?_ ?_); rfl)|fail)
 have d:=decide_eq_true h
 have hr:rankL t l=l.all (fun p=>decide (0≤p∧p≤15)):=by rw [rankL,d,Bool.true_and]
 rw [hr]
 (repeat' first|simp only [il29c,go_sem,d]|with_reducible refine wX fun _=>?_|((with_reducible refine wY ?_ ?_); rfl)|fail)
 refine q06 l I (step:=fun _ p (_:Unit)=>if decide (0≤p∧p≤15)=true then Ctl.go () else Ctl.out false) (fin:=fun _=>true)
  (St:=fun i _ e h=>(e 12=.t (.sl c 1 (l.map I))∧e 13=.t (I (l.length:Nat))∧e 14=.t (I (i:Nat)))∧h=[])
  (Ex:=fun r x e h=>r=true∧x=.exit 0∨r=false∧x=.ret∧e 4=.t (B false)) (s:=()) (by omega) ?_ ?_ (by omega) ?_ ?_
 ·intro i p _ e h Y R hm hi hx hget hlt hw ⟨hs,hh⟩ hk
  subst hh
  by_cases q1:p < 0
  ·have d1:=decide_eq_true q1
   rw [if_neg (by rw [decide_eq_true_eq]; omega),q04] at hk
   (repeat' first|simp only [il29l0_go,il29l0b,go_sem,hs,hget,hlt,d1]|with_reducible refine wX fun _=>?_|((with_reducible refine wY ?_ ?_); rfl)|fail)
   all_goals (refine hk _ _ _ (.inr ?_); simp only [go_sem])
  ·have d1:=decide_eq_false q1
   by_cases q2:15 < p
   ·have d2:=decide_eq_true q2
    rw [if_neg (by rw [decide_eq_true_eq]; omega),q04] at hk
    (repeat' first|simp only [il29l0_go,il29l0b,go_sem,hs,hget,hlt,d1,d2]|with_reducible refine wX fun _=>?_|((with_reducible refine wY ?_ ?_); rfl)|fail)
    all_goals (refine hk _ _ _ (.inr ?_); simp only [go_sem])
   ·have d2:=decide_eq_false q2
    rw [if_pos (by rw [decide_eq_true_eq]; omega),q01] at hk
    (repeat' first|simp only [il29l0_go,il29l0b,go_sem,hs,hget,hlt,hw,d1,d2]|with_reducible refine wX fun _=>?_|((with_reducible refine wY ?_ ?_); rfl)|fail)
    all_goals (refine hk _ _ ⟨?_,rfl⟩; simp only [go_sem,hs,hw])
 ·intro _ e h Y R hlt ⟨hs,hh⟩ hk
  subst hh
  (repeat' first|simp only [il29l0_go,il29l0b,go_sem,hs,hlt]|with_reducible refine wX fun _=>?_|((with_reducible refine wY ?_ ?_); rfl)|fail)
  all_goals (refine hk _ _ _ (.inl ?_); simp only [go_sem])
 ·refine ⟨?_,rfl⟩
  simp only [go_sem]
 ·intro x e h hx
  rw [foldC_all] at hx
  rcases hx with ⟨hb,rfl⟩|⟨hb,rfl,e2⟩
  ·(repeat' first|simp only [il29c,go_sem,hb]|with_reducible refine wX fun _=>?_|((with_reducible refine wY ?_ ?_); rfl)|fail)
  ·(repeat' first|simp only [il29c,go_sem,e2,hb]|with_reducible refine wX fun _=>?_|((with_reducible refine wY ?_ ?_); rfl)|fail)
theorem q1c (f:Fl) (w:Nw) (n:Nat) (hn:n < w.prios.length):ans Tryz.prog pol 34 [nwT f w,I (n:Nat)]=some (.agg [I (prA w n),I (n:Nat)]):=by
 have g:(w.prios.map I)[n]? = some (I (prA w n)):=by simp [prA,hn]
 refine q00 1 1 il34_eq (Nat.le_of_ble_eq_true rfl) ?_
 (repeat' first|simp only [il34c,go_sem,g]|with_reducible refine wX fun _=>?_|((with_reducible refine wY ?_ ?_); rfl)|fail)
theorem q1B (f:Fl) (w:Nw) (p:Nat) (h:okT w.t=true) (hp:p < 2*w.t.links.length):ans Tryz.prog pol 76 [nwT f w,I (p:Nat)]=some (I (toP w.t p)):=by
 have k:=qeT f.st f.lk w.t p h hp
 refine q00 1 1 il76_eq (Nat.le_of_ble_eq_true rfl) ?_
 (repeat' first|simp only [il76c,go_sem,k]|with_reducible refine wX fun _=>?_|((with_reducible refine wY ?_ ?_); rfl)|fail)
theorem q2u (f:Fl) (w:Nw) (n:Nat) (h:okT w.t=true) (hn:(n:Int) < w.t.nodes):ans Tryz.prog pol 75 [nwT f w,I (n:Nat)]=some (.sl false 1 (((portsL w.t n).map ofN).map I)):=by
 have k:=qeZ f.st f.lk w.t n h hn
 refine q00 1 1 il75_eq (Nat.le_of_ble_eq_true rfl) ?_
 (repeat' first|simp only [il75c,go_sem,k]|with_reducible refine wX fun _=>?_|((with_reducible refine wY ?_ ?_); rfl)|fail)
def innP (t:Tpo) (p:Nat):Bool:=!stA t (toP t p).toNat
def trunkL (t:Tpo) (n:Int):List Nat:=(portsL t n).filter (innP t)
def perP (t:Tpo) (p:Nat):Int:=(lnk t (p / 2)).per
def costL (t:Tpo) (n:Int):List Int:=(trunkL t n).map (perP t)
theorem q1d {t:Tpo} (h:okT t=true) {i:Nat} (hi:i < t.links.length):endsP t (lnk t i):=by
 simp only [okT,Bool.and_eq_true] at h
 exact q3s h.2.1 _ (by simp [lnk,hi])
theorem q0v {t:Tpo} (h:okT t=true) {p:Nat} (hp:p < 2*t.links.length):nodeP t (toP t p):=by
 have:=q1d h (i:=p / 2) (by omega)
 unfold toP
 split
 ·exact this.2.1
 ·exact this.1
theorem q0D {t:Tpo} (h:okT t=true) {p:Nat} (hp:p < 2*t.links.length):nodeP t (frP t p):=by
 have:=q1d h (i:=p / 2) (by omega)
 unfold frP
 split
 ·exact this.1
 ·exact this.2.1
theorem q1e {t:Tpo} {n:Int} {p:Nat} (h:p∈portsL t n):p < 2*t.links.length:=by
 simp only [portsL,List.mem_filter,List.mem_range] at h
 exact h.1
theorem q1f (t:Tpo) (n:Int):(portsL t n).length≤2*t.links.length:=by
 have:=List.length_filter_le (fun p=>decide (frP t p=n)) (List.range (2*t.links.length))
 simpa [portsL] using this
theorem qf6 (f:Fl) (w:Nw) (n:Nat) (h:okT w.t=true) (hn:(n:Int) < w.t.nodes):ans Tryz.prog pol 32 [nwT f w,I (n:Nat)]=some (.tup [.sl false 1 (((trunkL w.t n).map ofN).map I),.sl false 1 ((costL w.t n).map I)]):=by
 obtain ⟨z1,z2,z3⟩:=q02 h
 have k1:=q2u f w n h hn
 have hpl:=q1f w.t n
 have hplt:=fun p=>@q1e w.t n p
 simp only [costL,trunkL]
 generalize portsL w.t n=L at *
 have hLl:(L.map ofN).length=L.length:=by simp
 refine q00 200 1 il32_eq (Nat.le_of_ble_eq_true rfl) ?_
 (repeat' first|simp only [il32c,go_sem,k1,hLl]|with_reducible refine wX fun _=>?_|((with_reducible refine wY ?_ ?_); rfl)|fail)
 refine q06 L (fun p=>I (ofN p)) (step:=fun _ p (o:List Nat)=>.go (if innP w.t p=true then o++[p] else o)) (fin:=id)
  (St:=fun i o e h=>(e 2=.t (.ip (nwC f w))∧e 4=.ms 0 o.length 0 o.length 1 false∧e 5=.ms 1 o.length 0 o.length 1 false∧e 10=.t (.sl false 1 ((L.map ofN).map I))∧e 11=.t (I (L.length:Nat))∧e 12=.t (I (i:Nat)))∧o.length≤i∧h=[rowG 1 I (o.map ofN),rowG 1 I (o.map (perP w.t))])
  (Ex:=fun o x e h=>(e 4=.ms 0 o.length 0 o.length 1 false∧e 5=.ms 1 o.length 0 o.length 1 false)∧x=.exit 0∧h=[rowG 1 I (o.map ofN),rowG 1 I (o.map (perP w.t))]) (s:=[]) (by omega) ?_ ?_ (by omega) ?_ ?_
 ·intro i p o e h Y R hm hi hx hget hlt hw ⟨hs,ho,hh⟩ hk
  subst hh
  simp only [q01] at hk
  have hp:=hplt p hm
  have hget':((L.map ofN).map I)[i]? = some (I (ofN p)):=by simp [hx]
  have k2:=q1B f w p h hp
  obtain ⟨g1,q1⟩:=q0A w.t z2 (q0v h hp)
  have hj:p / 2 < w.t.links.length:=by omega
  have g2:(w.t.links.map encK)[p / 2]? = some (encK (lnk w.t (p / 2))):=by simp [lnk,hj]
  have v2:IntKind.i64.wrap (Int.tdiv (p:Nat) 2)=((p / 2:Nat):Int):=by rw [tdiv2]; exact q09 (by omega) (by omega)
  have hroom:(o.length+1)*8≤roomB:=q08 (by omega) (by omega)
  have hl1:(o.map ofN).length=o.length:=by simp
  have hl2:(o.map (perP w.t)).length=o.length:=by simp
  have is1:rowIs 1 o.length (some (rowG 1 I (o.map ofN))):=by have:=q0g (k:=1) (enc:=I) (l:=o.map ofN); rwa [hl1] at this
  have is2:rowIs 1 o.length (some (rowG 1 I (o.map (perP w.t)))):=by have:=q0g (k:=1) (enc:=I) (l:=o.map (perP w.t)); rwa [hl2] at this
  have pu1:AObj.row 1 (((o.map ofN).map I).map .t++[.t (I (ofN p))]) 0=rowG 1 I ((o++[p]).map ofN):=by simp [rowG]
  have pu2:AObj.row 1 (((o.map (perP w.t)).map I).map .t++[.t (I (lnk w.t (p / 2)).per)]) 0=rowG 1 I ((o++[p]).map (perP w.t)):=by simp [rowG,perP]
  have hinn:innP w.t p = !stA w.t (toP w.t p).toNat:=rfl
  rw [hinn] at hk
  generalize lnk w.t (p / 2)=l at *
  cases hst:stA w.t (toP w.t p).toNat with
  | true =>
   rw [hst] at g1 hk
   simp only [Bool.not_true,Bool.false_eq_true,if_false] at hk
   (repeat' first|simp only [il32l0_go,il32l0b,go_sem,hs,hget',hlt,hw,ofN,k2,q1,g1,q0n]|with_reducible refine wX fun _=>?_|((with_reducible refine wY ?_ ?_); rfl)|fail)
   all_goals (refine hk _ _ ⟨?_,by omega,rfl⟩; simp only [go_sem,hs,hw,ofN])
  | false =>
   rw [hst] at g1 hk
   simp only [Bool.not_false,if_true] at hk
   simp only [ofN] at pu1
   (repeat' first|simp only [il32l0_go,il32l0b,go_sem,hs,hget',hlt,hw,ofN,k2,q1,g1,g2,q0k,v2,hroom,is1,is2,q0d,q0e,pu1,pu2,q0n]|with_reducible refine wX fun _=>?_|((with_reducible refine wY ?_ ?_); rfl)|fail)
   all_goals (refine hk _ _ ⟨?_,by simp; omega,?_⟩ <;> simp only [go_sem,hs,hw,ofN,List.length_append])
 ·intro o e h Y R hlt ⟨hs,ho,hh⟩ hk
  subst hh
  (repeat' first|simp only [il32l0_go,il32l0b,go_sem,hs,hlt]|with_reducible refine wX fun _=>?_|((with_reducible refine wY ?_ ?_); rfl)|fail)
  all_goals (refine hk _ _ _ ⟨?_,rfl,rfl⟩; simp only [go_sem,hs,id])
 ·refine ⟨?_,by simp,rfl⟩
  simp only [go_sem,List.map_map]
 ·intro x e h ⟨h1,h2,h3⟩
  have hf:∀ (l:List Nat) (i:Nat) (o:List Nat),foldC (ρ:=List Nat) (fun _ p o=>Ctl.go (if innP w.t p=true then o++[p] else o)) id i l o=o++l.filter (innP w.t):=by
   intro l
   induction l with
   | nil=>intro i o; simp [foldC]
   | cons p l ih =>
    intro i o
    rw [q07 (s':=if innP w.t p=true then o++[p] else o) rfl,ih,List.filter_cons]
    by_cases q:innP w.t p=true
    ·simp [q]
    ·simp [q]
  rw [hf,List.nil_append] at h1 h3
  subst h2 h3
  generalize L.filter (innP w.t)=o at *
  have hl1:(o.map ofN).length=o.length:=by simp
  have hl2:(o.map (perP w.t)).length=o.length:=by simp
  have is1:rowIs 1 o.length (some (rowG 1 I (o.map ofN))):=by have:=q0g (k:=1) (enc:=I) (l:=o.map ofN); rwa [hl1] at this
  have is2:rowIs 1 o.length (some (rowG 1 I (o.map (perP w.t)))):=by have:=q0g (k:=1) (enc:=I) (l:=o.map (perP w.t)); rwa [hl2] at this
  (repeat' first|simp only [il32c,go_sem,h1,is1,is2,q0d,q0e]|with_reducible refine wX fun _=>?_|((with_reducible refine wY ?_ ?_); rfl)|fail)
end Go.Proofs.YtbibdnlbpjnieaaGreat
namespace Go.Proofs.YtbibdnlbpjnieaaGreat
open Go Go.Abs
abbrev heT (h:Hd):T:=.agg [I h.a,I h.b,I h.c,I h.d,I h.e,I h.f,I h.g]
abbrev heC (h:Hd):List T:=[I h.a,I h.b,I h.c,I h.d,I h.e,I h.f,I h.g]
def lt6 (x y:Hd):Int:=cmpL [x.a,x.b,x.c,x.d,x.e,x.f] [y.a,y.b,y.c,y.d,y.e,y.f]
def heardAs (h:Hd):Hd:=⟨true,h.a,h.b,h.c,h.d,h.e,h.f,h.g⟩
def rcvH (o h:Hd):Hd:=if o.is=false∨((o.d=h.d∧o.e=h.e)∧o.f=h.f)∨lt6 h o≤0 then heardAs h else o
def tickH (h:Hd):Hd:=if h.is=false then h else if 20 < h.g+1 then zH else ⟨h.is,h.a,h.b,h.c,h.d,h.e,h.f,h.g+1⟩
theorem q1C (x y:Hd):ans Tryz.prog pol 91 [.agg [I x.a,I x.b,I x.c,I x.d,I x.e,I x.f],.agg [I y.a,I y.b,I y.c,I y.d,I y.e,I y.f]]=some (I (lt6 x y)):=q6d x.a x.b x.c x.d x.e x.f y.a y.b y.c y.d y.e y.f
theorem q6n (x y:Hd):ans Tryz.prog pol 96 [.agg [I x.a,I x.b,I x.c,I x.d,I x.e,I x.f],.agg [I y.a,I y.b,I y.c,I y.d,I y.e,I y.f]]=some (B (decide (lt6 x y < 0))):=qez x.a x.b x.c x.d x.e x.f y.a y.b y.c y.d y.e y.f
theorem q0W {α:Type} {k mr:Nat} {enc:α→T} {l:List α} {h:Heap} {p:Nat→Bool}:frzObj h p (.row k ((l.map enc).map .t) mr)=some (.row k ((l.map enc).map .t) mr):=by
 simp only [frzObj,q0l,if_true]
theorem q3u {α:Type} {l:List α} {i:Nat} {x:α} (h:l[i]? = some x):l.set i x=l:=by
 apply List.ext_getElem?
 intro j
 rw [List.getElem?_set]
 by_cases q:i=j
 ·subst q; rw [if_pos rfl,if_pos (List.getElem?_eq_some_iff.1 h).1,h]
 ·rw [if_neg q]
theorem qf7 (c:Bool) (l:List Hd) (hl:l.length≤1000) (i:Nat) (o h:Hd) (ho:l[i]? = some o):ans Tryz.prog pol 117 [.sl c 8 (l.map encH),.fn (.func 130) [] [.ip [I (i:Nat)],.ip (heC h)]]=some (.sl true 8 ((l.set i (rcvH o h)).map encH)):=by
 have hi:=(List.getElem?_eq_some_iff.1 ho).1
 have hroom:64*l.length≤roomB:=by rw [Nat.mul_comm]; exact q08 (by omega) (by omega)
 have hbig:l.length≤9223372036854775807:=by omega
 have hcp:=q1v (size:=8) (n:=l.length) (o:=0) (mr:=0) (h:=[.row 8 (List.replicate l.length (.t (hdT zH))) 0]) (xs:=(l.map encH).map .t) (elems:=List.replicate l.length (.t (hdT zH))) (by simp) (by simp) (Nat.zero_le _)
 simp only [zH] at hcp
 have hg:((l.map encH).map AV.t)[i]? = some (.t (hdT o)):=q0c (enc:=encH) ho
 have hst:=map_set (enc:=encH) (l:=l) (i:=i) (x:=heardAs h)
 simp only [encH,hdT,heardAs] at hst
 have hsl:(l.set i (heardAs h)).length=l.length:=by simp
 have k1:=q1C h o
 have hsame:=q3u ho
 have hset:∀ q:rcvH o h=heardAs h,(l.set i (rcvH o h))=l.set i (heardAs h):=fun q=>by rw [q]
 have hkeep:∀ q:rcvH o h=o,(l.set i (rcvH o h))=l:=fun q=>by rw [q,hsame]
 by_cases q0:o.is=false
 ·rw [hset (by rw [rcvH,if_pos (.inl q0)])]
  simp only [heardAs] at hsl ⊢
  generalize l.set i ⟨true,h.a,h.b,h.c,h.d,h.e,h.f,h.g⟩=L at *
  refine q00 1 3 il117_eq (Nat.le_of_ble_eq_true rfl) ?_
  (have hc:=hc0; repeat' first|simp only [hc,il117c,go_sem,hroom,hbig,hcp,hg,hi,hst,hsl,q0]|((with_reducible first|refine wG (fun hc=>?_) fun hc=>?_|refine wC (fun hc=>?_) fun hc=>?_) <;> try simp only [bq1,bq2] at hc)|with_reducible refine wX fun _=>?_|((with_reducible refine wY ?_ ?_); rfl)|((with_reducible refine q0b il130_eq ?_ ?_); exact Nat.le_of_ble_eq_true rfl; simp only [il130c])|fail)
 have q0':o.is=true:=by simpa using q0
 by_cases qa:o.d=h.d∧o.e=h.e
 ·have da:decide (o.d=h.d∧o.e=h.e)=true:=decide_eq_true qa
  by_cases qb:o.f=h.f
  ·have db:decide (o.f=h.f)=true:=decide_eq_true qb
   rw [hset (by rw [rcvH,if_pos (.inr (.inl ⟨qa,qb⟩))])]
   simp only [heardAs] at hsl ⊢
   generalize l.set i ⟨true,h.a,h.b,h.c,h.d,h.e,h.f,h.g⟩=L at *
   refine q00 1 3 il117_eq (Nat.le_of_ble_eq_true rfl) ?_
   (have hc:=hc0; repeat' first|simp only [hc,il117c,go_sem,hroom,hbig,hcp,hg,hi,hst,hsl,da,db,q0']|((with_reducible first|refine wG (fun hc=>?_) fun hc=>?_|refine wC (fun hc=>?_) fun hc=>?_) <;> try simp only [bq1,bq2] at hc)|with_reducible refine wX fun _=>?_|((with_reducible refine wY ?_ ?_); rfl)|((with_reducible refine q0b il130_eq ?_ ?_); exact Nat.le_of_ble_eq_true rfl; simp only [il130c])|fail)
  ·have db:decide (o.f=h.f)=false:=decide_eq_false qb
   by_cases qc:lt6 h o≤0
   ·have dc:decide (lt6 h o≤0)=true:=decide_eq_true qc
    rw [hset (by rw [rcvH,if_pos (.inr (.inr qc))])]
    simp only [heardAs] at hsl ⊢
    generalize l.set i ⟨true,h.a,h.b,h.c,h.d,h.e,h.f,h.g⟩=L at *
    refine q00 1 3 il117_eq (Nat.le_of_ble_eq_true rfl) ?_
    (have hc:=hc0; repeat' first|simp only [hc,il117c,go_sem,hroom,hbig,hcp,hg,hi,hst,hsl,da,db,k1,dc,q0']|((with_reducible first|refine wG (fun hc=>?_) fun hc=>?_|refine wC (fun hc=>?_) fun hc=>?_) <;> try simp only [bq1,bq2] at hc)|with_reducible refine wX fun _=>?_|((with_reducible refine wY ?_ ?_); rfl)|((with_reducible refine q0b il130_eq ?_ ?_); exact Nat.le_of_ble_eq_true rfl; simp only [il130c])|fail)
   ·have dc:decide (lt6 h o≤0)=false:=decide_eq_false qc
    rw [hkeep (by rw [rcvH,if_neg (by rintro (h1|h1|h1); exact q0 h1; exact qb h1.2; exact qc h1)])]
    refine q00 1 3 il117_eq (Nat.le_of_ble_eq_true rfl) ?_
    (have hc:=hc0; repeat' first|simp only [hc,il117c,go_sem,hroom,hbig,hcp,hg,hi,da,db,k1,dc,q0']|((with_reducible first|refine wG (fun hc=>?_) fun hc=>?_|refine wC (fun hc=>?_) fun hc=>?_) <;> try simp only [bq1,bq2] at hc)|with_reducible refine wX fun _=>?_|((with_reducible refine wY ?_ ?_); rfl)|((with_reducible refine q0b il130_eq ?_ ?_); exact Nat.le_of_ble_eq_true rfl; simp only [il130c])|fail)
 ·have da:decide (o.d=h.d∧o.e=h.e)=false:=decide_eq_false qa
  by_cases qc:lt6 h o≤0
  ·have dc:decide (lt6 h o≤0)=true:=decide_eq_true qc
   rw [hset (by rw [rcvH,if_pos (.inr (.inr qc))])]
   simp only [heardAs] at hsl ⊢
   generalize l.set i ⟨true,h.a,h.b,h.c,h.d,h.e,h.f,h.g⟩=L at *
   refine q00 1 3 il117_eq (Nat.le_of_ble_eq_true rfl) ?_
   (have hc:=hc0; repeat' first|simp only [hc,il117c,go_sem,hroom,hbig,hcp,hg,hi,hst,hsl,da,k1,dc,q0']|((with_reducible first|refine wG (fun hc=>?_) fun hc=>?_|refine wC (fun hc=>?_) fun hc=>?_) <;> try simp only [bq1,bq2] at hc)|with_reducible refine wX fun _=>?_|((with_reducible refine wY ?_ ?_); rfl)|((with_reducible refine q0b il130_eq ?_ ?_); exact Nat.le_of_ble_eq_true rfl; simp only [il130c])|fail)
  ·have dc:decide (lt6 h o≤0)=false:=decide_eq_false qc
   rw [hkeep (by rw [rcvH,if_neg (by rintro (h1|h1|h1); exact q0 h1; exact qa h1.1; exact qc h1)])]
   refine q00 1 3 il117_eq (Nat.le_of_ble_eq_true rfl) ?_
   (have hc:=hc0; repeat' first|simp only [hc,il117c,go_sem,hroom,hbig,hcp,hg,hi,da,k1,dc,q0']|((with_reducible first|refine wG (fun hc=>?_) fun hc=>?_|refine wC (fun hc=>?_) fun hc=>?_) <;> try simp only [bq1,bq2] at hc)|with_reducible refine wX fun _=>?_|((with_reducible refine wY ?_ ?_); rfl)|((with_reducible refine q0b il130_eq ?_ ?_); exact Nat.le_of_ble_eq_true rfl; simp only [il130c])|fail)
theorem qf8 (c:Bool) (l:List Hd) (hl:l.length≤1000) (i:Nat) (hi:i < l.length):ans Tryz.prog pol 117 [.sl c 8 (l.map encH),.fn (.func 103) [] [.ip [I (i:Nat)]]]=some (.sl true 8 ((l.set i zH).map encH)):=by
 obtain ⟨o,ho⟩:∃ o,l[i]? = some o:=⟨l[i],by simp⟩
 have hroom:64*l.length≤roomB:=by rw [Nat.mul_comm]; exact q08 (by omega) (by omega)
 have hbig:l.length≤9223372036854775807:=by omega
 have hcp:=q1v (size:=8) (n:=l.length) (o:=0) (mr:=0) (h:=[.row 8 (List.replicate l.length (.t (hdT zH))) 0]) (xs:=(l.map encH).map .t) (elems:=List.replicate l.length (.t (hdT zH))) (by simp) (by simp) (Nat.zero_le _)
 have hst:=map_set (enc:=encH) (l:=l) (i:=i) (x:=zH)
 simp only [encH,hdT,zH] at hst
 simp only [zH] at hcp ⊢
 have hg:((l.map encH).map AV.t)[i]? = some (.t (hdT o)):=q0c (enc:=encH) ho
 have hsl:(l.set i ⟨false,0,0,0,0,0,0,0⟩).length=l.length:=by simp
 generalize l.set i ⟨false,0,0,0,0,0,0,0⟩=L at *
 refine q00 1 3 il117_eq (Nat.le_of_ble_eq_true rfl) ?_
 (have hc:=hc0; repeat' first|simp only [hc,il117c,go_sem,hroom,hbig,hcp,hg,hi,hst,hsl]|((with_reducible first|refine wG (fun hc=>?_) fun hc=>?_|refine wC (fun hc=>?_) fun hc=>?_) <;> try simp only [bq1,bq2] at hc)|with_reducible refine wX fun _=>?_|((with_reducible refine wY ?_ ?_); rfl)|((with_reducible refine q0b il103_eq ?_ ?_); exact Nat.le_of_ble_eq_true rfl; simp only [il103c])|fail)
theorem qf9 (l:List Hd) (hl:l.length≤1000) (hb:∀ h∈l,-1000000≤h.g∧h.g≤1000000) (J:Inl) (nn n0:Nat) (hn:1000 < nn) (R:Xit→FEnv→Heap→Prop) (e:FEnv)
  (he:e 0=.ms 0 l.length 0 l.length 8 true∧e 4=.ms 0 l.length 0 l.length 8 true∧e 5=.t (I (l.length:Nat))∧e 6=.t (I 0))
  (hR:∀ e mr,mr≤l.length→R (.exit 0) e [.row 8 (((l.map tickH).map encH).map .t) mr]) :
  wpIter 1 (some [0,4,5,6]) (wc Tryz.prog pol (ans Tryz.prog pol) J n0 131 il131l0) R nn e [.row 8 ((l.map encH).map .t) l.length]:=by
 refine q06 l encH (step:=fun i _ (_:Unit)=>Ctl.go ()) (fin:=id)
  (St:=fun i _ e h=>(e 0=.ms 0 l.length 0 l.length 8 true∧e 4=.ms 0 l.length 0 l.length 8 true∧e 5=.t (I (l.length:Nat))∧e 6=.t (I (i:Nat)))∧h=[.row 8 (((((l.take i).map tickH)++l.drop i).map encH).map .t) l.length])
  (Ex:=fun _ x e h=>x=.exit 0∧h=[.row 8 (((l.map tickH).map encH).map .t) l.length]) (s:=()) (by omega) ?_ ?_ (by omega) ⟨he,by simp⟩ ?_
 ·intro i o _ e h Y R hm hi hx hget hlt hw ⟨hs,hh⟩ hk
  subst hh
  simp only [q01] at hk
  have hob:=hb o hm
  have hL:(((l.take i).map tickH)++l.drop i)[i]? = some o:=by
   rw [List.getElem?_append_right (by simp; omega)]
   simp [List.length_take,Nat.min_eq_left (Nat.le_of_lt hi),hx]
  have hnext:(((l.take i).map tickH)++l.drop i).set i (tickH o)=((l.take (i+1)).map tickH)++l.drop (i+1):=by
   have h1:l.drop i=o::l.drop (i+1):=by
    obtain ⟨h1,h2⟩:=List.getElem?_eq_some_iff.1 hx
    rw [← h2]; exact List.drop_eq_getElem_cons h1
   have h2:l.take (i+1)=l.take i++[o]:=by rw [List.take_add_one,hx]; rfl
   have h3:((l.take i).map tickH).length=i:=by simp; omega
   rw [h1,h2,List.set_append,h3]
   simp
  have hLl:(((l.take i).map tickH)++l.drop i).length=l.length:=by simp; omega
  generalize ((l.take i).map tickH)++l.drop i=L at *
  generalize ((l.take (i+1)).map tickH)++l.drop (i+1)=L2 at *
  have hg:((L.map encH).map AV.t)[i]? = some (.t (hdT o)):=q0c (enc:=encH) hL
  have hst:=map_set (enc:=encH) (l:=L) (i:=i) (x:=tickH o)
  rw [hnext] at hst
  have v1:IntKind.i64.wrap (o.g+1)=o.g+1:=q09 (by omega) (by omega)
  by_cases q0:o.is=false
  ·have ht:tickH o=o:=by rw [tickH,if_pos q0]
   rw [ht] at hnext
   have:L2=L:=by rw [← hnext]; exact q3u hL
   subst this
   (have hc:=hc0; repeat' first|simp only [hc,il131l0_go,il131l0b,go_sem,hs,hlt,hi,hLl,hg,hw,q0,q0W]|((with_reducible first|refine wG (fun hc=>?_) fun hc=>?_|refine wC (fun hc=>?_) fun hc=>?_) <;> try simp only [bq1,bq2] at hc)|with_reducible refine wX fun _=>?_|((with_reducible refine wY ?_ ?_); rfl)|fail)
   all_goals (refine hk _ _ ⟨?_,rfl⟩; simp only [go_sem,hs,hw])
  ·have q0':o.is=true:=by simpa using q0
   by_cases q1:20 < o.g+1
   ·have d1:decide (20 < o.g+1)=true:=decide_eq_true q1
    have ht:tickH o=zH:=by rw [tickH,if_neg q0,if_pos q1]
    rw [ht] at hst
    simp only [encH,hdT,zH] at hst
    (have hc:=hc0; repeat' first|simp only [hc,il131l0_go,il131l0b,go_sem,hs,hlt,hi,hLl,hg,hw,q0',v1,d1,hst,q0W]|((with_reducible first|refine wG (fun hc=>?_) fun hc=>?_|refine wC (fun hc=>?_) fun hc=>?_) <;> try simp only [bq1,bq2] at hc)|with_reducible refine wX fun _=>?_|((with_reducible refine wY ?_ ?_); rfl)|fail)
    all_goals (refine hk _ _ ⟨?_,rfl⟩; simp only [go_sem,hs,hw])
   ·have d1:decide (20 < o.g+1)=false:=decide_eq_false q1
    have ht:tickH o=⟨o.is,o.a,o.b,o.c,o.d,o.e,o.f,o.g+1⟩:=by rw [tickH,if_neg q0,if_neg q1]
    rw [ht] at hst
    simp only [encH,hdT,q0'] at hst
    (have hc:=hc0; repeat' first|simp only [hc,il131l0_go,il131l0b,go_sem,hs,hlt,hi,hLl,hg,hw,q0',v1,d1,hst,q0W]|((with_reducible first|refine wG (fun hc=>?_) fun hc=>?_|refine wC (fun hc=>?_) fun hc=>?_) <;> try simp only [bq1,bq2] at hc)|with_reducible refine wX fun _=>?_|((with_reducible refine wY ?_ ?_); rfl)|fail)
    all_goals (refine hk _ _ ⟨?_,rfl⟩; simp only [go_sem,hs,hw])
 ·intro _ e h Y R hlt ⟨hs,hh⟩ hk
  subst hh
  (have hc:=hc0; repeat' first|simp only [hc,il131l0_go,il131l0b,go_sem,hs,hlt,q0W]|((with_reducible first|refine wG (fun hc=>?_) fun hc=>?_|refine wC (fun hc=>?_) fun hc=>?_) <;> try simp only [bq1,bq2] at hc)|with_reducible refine wX fun _=>?_|((with_reducible refine wY ?_ ?_); rfl)|fail)
  all_goals (refine hk _ _ _ ⟨rfl,?_⟩; simp)
 ·intro x e h ⟨h1,h2⟩
  subst h1 h2
  exact hR _ _ (Nat.le_refl _)
theorem qfa (c:Bool) (l:List Hd) (hl:l.length≤1000) (hb:∀ h∈l,-1000000≤h.g∧h.g≤1000000):ans Tryz.prog pol 117 [.sl c 8 (l.map encH),.fn (.func 131) [] []]=some (.sl true 8 ((l.map tickH).map encH)):=by
 have hroom:64*l.length≤roomB:=by rw [Nat.mul_comm]; exact q08 (by omega) (by omega)
 have hbig:l.length≤9223372036854775807:=by omega
 have hcp:=q1v (size:=8) (n:=l.length) (o:=0) (mr:=0) (h:=[.row 8 (List.replicate l.length (.t (hdT zH))) 0]) (xs:=(l.map encH).map .t) (elems:=List.replicate l.length (.t (hdT zH))) (by simp) (by simp) (Nat.zero_le _)
 simp only [zH] at hcp
 refine q00 2000 3 il117_eq (Nat.le_of_ble_eq_true rfl) ?_
 (have hc:=hc0; repeat' first|simp only [hc,il117c,go_sem,hroom,hbig,hcp]|((with_reducible first|refine wG (fun hc=>?_) fun hc=>?_|refine wC (fun hc=>?_) fun hc=>?_) <;> try simp only [bq1,bq2] at hc)|with_reducible refine wX fun _=>?_|((with_reducible refine wY ?_ ?_); rfl)|((with_reducible refine q0b il131_eq ?_ ?_); exact Nat.le_of_ble_eq_true rfl; simp only [il131c])|fail)
 refine qf9 l hl hb _ _ _ (by omega) _ _ (by simp only [go_sem]) ?_
 intro e mr hmr
 have htl:(l.map tickH).length=l.length:=by simp
 generalize l.map tickH=L at *
 (have hc:=hc0; repeat' first|simp only [hc,il117c,go_sem,hmr,htl]|((with_reducible first|refine wG (fun hc=>?_) fun hc=>?_|refine wC (fun hc=>?_) fun hc=>?_) <;> try simp only [bq1,bq2] at hc)|with_reducible refine wX fun _=>?_|((with_reducible refine wY ?_ ?_); rfl)|fail)
end Go.Proofs.YtbibdnlbpjnieaaGreat
namespace Go.Proofs.YtbibdnlbpjnieaaGreat
open Go Go.Abs
theorem q0t {b:Br} (h:okB b=true):okL b:=by
 rw [okB,Bool.and_eq_true,Bool.and_eq_true] at h
 exact of_decide_eq_true h.1.1
theorem q1X {b:Br} (h:okB b=true) {i:Nat} (hi:i < b.ports.length):okAt b i=true:=by
 rw [okB,Bool.and_eq_true,List.all_eq_true] at h
 exact h.2 i (by simpa using hi)
theorem q3v {b:Br} (h:okB b=true) {x:Hd} (hx:x∈b.heard):okH x:=by
 obtain ⟨i,hi⟩:=List.mem_iff_getElem?.1 hx
 have hl:=q0t h
 have hil:=(List.getElem?_eq_some_iff.1 hi).1
 simp only [okL] at hl
 have:=q1X h (i:=i) (by omega)
 rw [okAt,decide_eq_true_eq] at this
 have h2:=this.2.2.2
 rw [hrd,hi] at h2
 exact h2
theorem okH_g {x:Hd} (h:okH x):-1000000≤x.g∧x.g≤1000000:=by
 cases hx:x.is with
 | true=>have:=h.1 hx; simp only [helloP] at this; omega
 | false=>have:=h.2 hx; rw [this]; simp [zH]
theorem q2v {c1 c2 c3:Bool} {b:Br} (h:okB b=true):ans Tryz.prog pol 77 [brT c1 c2 c3 b]=some (I 0):=by rw [q3q,if_pos h]
theorem qfb {h:Hd} (g:helloP h):ans Tryz.prog pol 114 [heT h]=some (I 0):=by have:=q6f h; rwa [if_pos g] at this
section
variable (c1 c2 c3:Bool) (b:Br)
def putB (b:Br) (hd:List Hd):Br:=⟨b.p,b.n,b.ports,b.costs,hd⟩
theorem qfc (i:Nat) (h:Hd) (hb:okB b=true) (hi:i < b.ports.length) (hh:helloP h):ans Tryz.prog pol 101 [brT c1 c2 c3 b,I (i:Nat),heT h]=some (.tup [brT true true true (putB b (b.heard.set i (rcvH (hrd b i) h))),I 0]):=by
 have k1:=q2v (c1:=c1) (c2:=c2) (c3:=c3) hb
 have k2:=qfb hh
 have hl:=q0t hb
 simp only [okL] at hl
 have d1:decide ((i:Int) < 0)=false:=decide_eq_false (by omega)
 have d2:decide (((b.ports.length:Nat):Int)≤(i:Nat))=false:=decide_eq_false (by omega)
 have k3:=q2t c1 c2 c3 b (.fn (.func 130) [] [.ip [I (i:Nat)],.ip (heC h)]) (b.heard.set i (rcvH (hrd b i) h)) (by omega) (by omega) (qf7 c3 b.heard (by omega) i (hrd b i) h (by simp [hrd,show i < b.heard.length by omega]))
 refine q00 1 1 il101_eq (Nat.le_of_ble_eq_true rfl) ?_
 simp only [putB]
 generalize b.heard.set i (rcvH (hrd b i) h)=L at *
 (repeat' first|simp only [il101c,go_sem,k1,d1,d2,k2,k3]|with_reducible refine wX fun _=>?_|((with_reducible refine wY ?_ ?_); rfl)|fail)
theorem qfd (i:Nat) (hb:okB b=true) (hi:i < b.ports.length):ans Tryz.prog pol 62 [brT c1 c2 c3 b,I (i:Nat)]=some (.tup [brT true true true (putB b (b.heard.set i zH)),I 0]):=by
 have k1:=q2v (c1:=c1) (c2:=c2) (c3:=c3) hb
 have hl:=q0t hb
 simp only [okL] at hl
 have d1:decide ((i:Int) < 0)=false:=decide_eq_false (by omega)
 have d2:decide (((b.ports.length:Nat):Int)≤(i:Nat))=false:=decide_eq_false (by omega)
 have k3:=q2t c1 c2 c3 b (.fn (.func 103) [] [.ip [I (i:Nat)]]) (b.heard.set i zH) (by omega) (by omega) (qf8 c3 b.heard (by omega) i (by omega))
 refine q00 1 1 il62_eq (Nat.le_of_ble_eq_true rfl) ?_
 simp only [putB]
 generalize b.heard.set i zH=L at *
 (repeat' first|simp only [il62c,go_sem,k1,d1,d2,k3]|with_reducible refine wX fun _=>?_|((with_reducible refine wY ?_ ?_); rfl)|fail)
theorem qfe (hb:okB b=true):ans Tryz.prog pol 102 [brT c1 c2 c3 b]=some (.tup [brT true true true (putB b (b.heard.map tickH)),I 0]):=by
 have k1:=q2v (c1:=c1) (c2:=c2) (c3:=c3) hb
 have hl:=q0t hb
 simp only [okL] at hl
 have k3:=q2t c1 c2 c3 b (.fn (.func 131) [] []) (b.heard.map tickH) (by omega) (by omega) (qfa c3 b.heard (by omega) (fun h hh=>okH_g (q3v hb hh)))
 refine q00 1 1 il102_eq (Nat.le_of_ble_eq_true rfl) ?_
 simp only [putB]
 generalize b.heard.map tickH=L at *
 (repeat' first|simp only [il102c,go_sem,k1,k3]|with_reducible refine wX fun _=>?_|((with_reducible refine wY ?_ ?_); rfl)|fail)
end
end Go.Proofs.YtbibdnlbpjnieaaGreat
namespace Go.Proofs.YtbibdnlbpjnieaaGreat
open Go Go.Abs
def emptyB (b:Br):Bool:=decide ((b.p=0∧b.n=0)∧b.ports.length=0∧b.costs.length=0∧b.heard.length=0)
def quietB (w:Nw) (l:List Nat) (b:Br):Bool:=(List.range l.length).all (fun i=>!(dnA w (l[i]?.getD 0 / 2) && (hrd b i).is))
def soundN (w:Nw) (n:Nat):Bool:=if stA w.t n=true then emptyB (bxA w n).b else
 okB (bxA w n).b && (decide ((bxA w n).b.p=prA w n∧(bxA w n).b.n=(n:Nat)) && (decide ((bxA w n).b.ports=(trunkL w.t n).map ofN) && (decide ((bxA w n).b.costs=costL w.t n) && quietB w (trunkL w.t n) (bxA w n).b)))
theorem q1D {t:Tpo} {n:Int} {p:Nat} (h:p∈trunkL t n):p < 2*t.links.length:=q1e (List.mem_filter.1 h).1
theorem q1Y (t:Tpo) (n:Int):(trunkL t n).length≤2*t.links.length:=Nat.le_trans (List.length_filter_le _ _) (q1f t n)
section
variable (f:Fl) (w:Nw) (n:Nat) (h:okT w.t=true) (hr:rankL w.t w.prios=true) (hd:w.down.length=w.t.links.length) (hn:(n:Int) < w.t.nodes) (hb:n < w.bs.length)
include h hr hd hn hb
theorem qff (hz:(bxA w n).z=true→stA w.t n=true∧(bxA w n).b=zBr):ans Tryz.prog pol 40 [nwT f w,I (n:Nat)]=some (B (soundN w n)):=by
 obtain ⟨z1,z2,z3⟩:=q02 h
 have g:(w.bs.map encX)[n]? = some (encX (bxA w n)):=by simp [bxA,hb]
 have hs0:n < w.t.station.length:=by omega
 have g1:(w.t.station.map B)[n]? = some (B (stA w.t n)):=by simp [stA,hs0]
 have k1:=qf6 f w n h hn
 have hpr:n < w.prios.length:=by
  simp only [rankL,Bool.and_eq_true] at hr
  have:=of_decide_eq_true hr.1
  omega
 have k2:=q1c f w n hpr
 have htl:=q1Y w.t n
 have htlt:=fun p=>@q1D w.t n p
 simp only [soundN]
 generalize hx:bxA w n=x at *
 cases hst:stA w.t n with
 | true =>
  rw [if_pos rfl]
  obtain ⟨z,c1,c2,c3,b⟩:=x
  refine q00 200 1 il40_eq (Nat.le_of_ble_eq_true rfl) ?_
  cases z with
  | true =>
   obtain ⟨_,rfl⟩:=hz rfl
   rw [hst] at g1
   have he:emptyB zBr=true:=rfl
   rw [he]
   simp only [encX,bxC,if_true] at g
   (repeat' first|simp only [il40c,go_sem,g,g1]|with_reducible refine wX fun _=>?_|((with_reducible refine wY ?_ ?_); rfl)|fail)
  | false =>
   rw [hst] at g1
   simp only [encX,bxC,Bool.false_eq_true,if_false] at g
   simp only [emptyB]
   by_cases q1:b.p=0∧b.n=0
   ·have d1:=decide_eq_true q1
    by_cases q2:b.ports.length=0
    ·have d2:decide ((b.ports.length:Int)=0)=true:=decide_eq_true (by omega)
     by_cases q3:b.costs.length=0
     ·have d3:decide ((b.costs.length:Int)=0)=true:=decide_eq_true (by omega)
      by_cases q4:b.heard.length=0
      ·have d4:decide ((b.heard.length:Int)=0)=true:=decide_eq_true (by omega)
       rw [decide_eq_true (⟨q1,q2,q3,q4⟩:_∧_∧_∧_)]
       (repeat' first|simp only [il40c,go_sem,g,g1,d1,d2,d3,d4]|with_reducible refine wX fun _=>?_|((with_reducible refine wY ?_ ?_); rfl)|fail)
      ·have d4:decide ((b.heard.length:Int)=0)=false:=decide_eq_false (by omega)
       rw [decide_eq_false (fun k=>q4 k.2.2.2)]
       (repeat' first|simp only [il40c,go_sem,g,g1,d1,d2,d3,d4]|with_reducible refine wX fun _=>?_|((with_reducible refine wY ?_ ?_); rfl)|fail)
     ·have d3:decide ((b.costs.length:Int)=0)=false:=decide_eq_false (by omega)
      rw [decide_eq_false (fun k=>q3 k.2.2.1)]
      (repeat' first|simp only [il40c,go_sem,g,g1,d1,d2,d3]|with_reducible refine wX fun _=>?_|((with_reducible refine wY ?_ ?_); rfl)|fail)
    ·have d2:decide ((b.ports.length:Int)=0)=false:=decide_eq_false (by omega)
     rw [decide_eq_false (fun k=>q2 k.2.1)]
     (repeat' first|simp only [il40c,go_sem,g,g1,d1,d2]|with_reducible refine wX fun _=>?_|((with_reducible refine wY ?_ ?_); rfl)|fail)
   ·have d1:=decide_eq_false q1
    rw [decide_eq_false (fun k=>q1 k.1)]
    (repeat' first|simp only [il40c,go_sem,g,g1,d1]|with_reducible refine wX fun _=>?_|((with_reducible refine wY ?_ ?_); rfl)|fail)
 | false =>
  rw [if_neg (by simp)]
  obtain ⟨z,c1,c2,c3,b⟩:=x
  cases z with
  | true=>exact absurd (hz rfl).1 (by rw [hst]; simp)
  | false =>
   rw [hst] at g1
   simp only [encX,bxC,Bool.false_eq_true,if_false] at g
   dsimp only at *
   have k3:=q3q c1 c2 c3 b
   cases hok:okB b with
   | false =>
    rw [hok,if_neg (by simp)] at k3
    rw [Bool.false_and]
    refine q00 200 1 il40_eq (Nat.le_of_ble_eq_true rfl) ?_
    (repeat' first|simp only [il40c,go_sem,g,g1,k1,k3]|with_reducible refine wX fun _=>?_|((with_reducible refine wY ?_ ?_); rfl)|fail)
   | true =>
    rw [hok,if_pos rfl] at k3
    rw [Bool.true_and]
    obtain ⟨l1,l2,l3⟩:=q0t hok
    by_cases q1:b.p=prA w n∧b.n=(n:Nat)
    rotate_left
    ·have d1:=decide_eq_false q1
     rw [d1,Bool.false_and]
     refine q00 200 1 il40_eq (Nat.le_of_ble_eq_true rfl) ?_
     (repeat' first|simp only [il40c,go_sem,g,g1,k1,k2,k3,d1]|with_reducible refine wX fun _=>?_|((with_reducible refine wY ?_ ?_); rfl)|fail)
    have d1:=decide_eq_true q1
    have k4:=q1b c1 false b.ports ((trunkL w.t n).map ofN) (by omega)
    have k5:=q1b c2 false b.costs (costL w.t n) (by omega)
    rw [d1,Bool.true_and]
    by_cases q2:b.ports=(trunkL w.t n).map ofN
    rotate_left
    ·rw [decide_eq_false q2] at k4
     rw [decide_eq_false q2,Bool.false_and]
     refine q00 200 1 il40_eq (Nat.le_of_ble_eq_true rfl) ?_
     (repeat' first|simp only [il40c,go_sem,g,g1,k1,k2,k3,d1,k4]|with_reducible refine wX fun _=>?_|((with_reducible refine wY ?_ ?_); rfl)|fail)
    rw [decide_eq_true q2] at k4
    rw [decide_eq_true q2,Bool.true_and]
    by_cases q3:b.costs=costL w.t n
    rotate_left
    ·rw [decide_eq_false q3] at k5
     rw [decide_eq_false q3,Bool.false_and]
     refine q00 200 1 il40_eq (Nat.le_of_ble_eq_true rfl) ?_
     (repeat' first|simp only [il40c,go_sem,g,g1,k1,k2,k3,d1,k4,k5]|with_reducible refine wX fun _=>?_|((with_reducible refine wY ?_ ?_); rfl)|fail)
    rw [decide_eq_true q3] at k5
    rw [decide_eq_true q3,Bool.true_and]
    have hlen:b.heard.length=(trunkL w.t n).length:=by rw [l3,q2]; simp
    clear q2 q3
    generalize trunkL w.t n=L at *
    have hLl:(L.map ofN).length=L.length:=by simp
    refine q00 200 1 il40_eq (Nat.le_of_ble_eq_true rfl) ?_
    simp only [quietB]
    (repeat' first|simp only [il40c,go_sem,g,g1,k1,k2,k3,d1,k4,k5,hLl]|with_reducible refine wX fun _=>?_|((with_reducible refine wY ?_ ?_); rfl)|fail)
    refine q06 L (fun p=>I (ofN p)) (step:=fun i _ (_:Unit)=>if (!(dnA w (L[i]?.getD 0 / 2) && (hrd b i).is))=true then Ctl.go () else Ctl.out false) (fin:=fun _=>true)
     (St:=fun i _ e h=>(e 2=.t (.ip (nwC f w))∧e 5=.ref 0 1 0 0∧e 74=.t (.sl false 1 ((L.map ofN).map I))∧e 75=.t (I (L.length:Nat))∧e 76=.t (I (i:Nat)))∧h=[.row 5 [.t (.agg (brC c1 c2 c3 b))] 1])
     (Ex:=fun r x e h=>r=true∧x=.exit 0∨r=false∧x=.ret∧e 4=.t (B false)) (s:=()) (by omega) ?_ ?_ (by omega) ?_ ?_
    ·intro i p _ e h Y R hm hi hx hget hlt hw ⟨hs,hh⟩ hk
     subst hh
     have hget':((L.map ofN).map I)[i]? = some (I (ofN p)):=by simp [hx]
     have hp:=htlt p hm
     have hj:p / 2 < w.down.length:=by omega
     have g2:(w.down.map B)[p / 2]? = some (B (dnA w (p / 2))):=by simp [dnA,hj]
     have g3:(b.heard.map encH)[i]? = some (encH (hrd b i)):=by simp [hrd,show i < b.heard.length by omega]
     have v2:IntKind.i64.wrap (Int.tdiv (p:Nat) 2)=((p / 2:Nat):Int):=by rw [tdiv2]; exact q09 (by omega) (by omega)
     rw [hx] at hk
     simp only [Option.getD_some] at hk
     generalize hrd b i=H at *
     cases hD:dnA w (p / 2) with
     | false =>
      rw [hD] at g2
      rw [if_pos (by simp [hD]),q01] at hk
      (repeat' first|simp only [il40l0_go,il40l0b,go_sem,hs,hget',hlt,hw,ofN,v2,g2]|with_reducible refine wX fun _=>?_|((with_reducible refine wY ?_ ?_); rfl)|fail)
      all_goals (refine hk _ _ ⟨?_,rfl⟩; simp only [go_sem,hs,hw,ofN])
     | true =>
      rw [hD] at g2
      obtain ⟨hi0,h1,h2,h3,h4,h5,h6,h7⟩:=H
      cases hi0 with
      | false =>
       rw [if_pos (by simp),q01] at hk
       (repeat' first|simp only [il40l0_go,il40l0b,go_sem,hs,hget',hlt,hw,ofN,v2,g2,g3,q05]|with_reducible refine wX fun _=>?_|((with_reducible refine wY ?_ ?_); rfl)|fail)
       all_goals (refine hk _ _ ⟨?_,rfl⟩; simp only [go_sem,hs,hw,ofN])
      | true =>
       rw [if_neg (by simp [hD]),q04] at hk
       (repeat' first|simp only [il40l0_go,il40l0b,go_sem,hs,hget',hlt,hw,ofN,v2,g2,g3,q05]|with_reducible refine wX fun _=>?_|((with_reducible refine wY ?_ ?_); rfl)|fail)
       all_goals (refine hk _ _ _ (.inr ?_); simp only [go_sem])
    ·intro _ e h Y R hlt ⟨hs,hh⟩ hk
     subst hh
     (repeat' first|simp only [il40l0_go,il40l0b,go_sem,hs,hlt]|with_reducible refine wX fun _=>?_|((with_reducible refine wY ?_ ?_); rfl)|fail)
     all_goals (refine hk _ _ _ (.inl ?_); simp only [go_sem])
    ·refine ⟨?_,rfl⟩
     simp only [go_sem]
    ·intro x e h hx
     rw [q1a,← List.range_eq_range'] at hx
     rcases hx with ⟨hb,rfl⟩|⟨hb,rfl,e2⟩
     ·(repeat' first|simp only [il40c,go_sem,hb]|with_reducible refine wX fun _=>?_|((with_reducible refine wY ?_ ?_); rfl)|fail)
     ·(repeat' first|simp only [il40c,go_sem,e2,hb]|with_reducible refine wX fun _=>?_|((with_reducible refine wY ?_ ?_); rfl)|fail)
end
end Go.Proofs.YtbibdnlbpjnieaaGreat
namespace Go.Proofs.YtbibdnlbpjnieaaGreat
open Go Go.Abs
def okN (w:Nw):Bool:=okT w.t && (rankL w.t w.prios && (decide ((w.bs.length:Int)=w.t.nodes) && (decide (w.down.length=w.t.links.length) && (List.range w.bs.length).all (soundN w))))
def zOk (w:Nw):Prop:=∀ n,n < w.bs.length→(bxA w n).z=true→stA w.t n=true∧(bxA w n).b=zBr
theorem q1g (f:Fl) (w:Nw) (hz:zOk w) (h1:w.prios.length≤900) (h2:w.bs.length≤900):ans Tryz.prog pol 14 [nwT f w]=some (I (if okN w=true then 0 else 300)):=by
 have k1:=q3t f.st f.lk w.t
 have k2:=q6m f.pr f.st f.lk w.t w.prios h1
 cases q1:okT w.t with
 | false =>
  rw [q1,if_neg (by simp)] at k1
  rw [if_neg (by simp [okN,q1])]
  refine q00 1000 1 il14_eq (Nat.le_of_ble_eq_true rfl) ?_
  (repeat' first|simp only [il14c,go_sem,k1]|with_reducible refine wX fun _=>?_|((with_reducible refine wY ?_ ?_); rfl)|fail)
 | true =>
  rw [q1,if_pos rfl] at k1
  cases q2:rankL w.t w.prios with
  | false =>
   rw [q2] at k2
   rw [if_neg (by simp [okN,q1,q2])]
   refine q00 1000 1 il14_eq (Nat.le_of_ble_eq_true rfl) ?_
   (repeat' first|simp only [il14c,go_sem,k1,k2]|with_reducible refine wX fun _=>?_|((with_reducible refine wY ?_ ?_); rfl)|fail)
  | true =>
   rw [q2] at k2
   by_cases q3:(w.bs.length:Int)=w.t.nodes
   rotate_left
   ·have d3:=decide_eq_false q3
    rw [if_neg (by simp [okN,q1,q2,d3])]
    refine q00 1000 1 il14_eq (Nat.le_of_ble_eq_true rfl) ?_
    (repeat' first|simp only [il14c,go_sem,k1,k2,d3]|with_reducible refine wX fun _=>?_|((with_reducible refine wY ?_ ?_); rfl)|fail)
   have d3:=decide_eq_true q3
   by_cases q4:w.down.length=w.t.links.length
   rotate_left
   ·have d4:decide ((w.down.length:Int)=(w.t.links.length:Nat))=false:=decide_eq_false (by omega)
    rw [if_neg (by simp [okN,q1,q2,d3,q4])]
    refine q00 1000 1 il14_eq (Nat.le_of_ble_eq_true rfl) ?_
    (repeat' first|simp only [il14c,go_sem,k1,k2,d3,d4]|with_reducible refine wX fun _=>?_|((with_reducible refine wY ?_ ?_); rfl)|fail)
   have d4:decide ((w.down.length:Int)=(w.t.links.length:Nat))=true:=decide_eq_true (by omega)
   have hok:okN w=(List.range w.bs.length).all (soundN w):=by rw [okN,q1,q2,d3,decide_eq_true q4]; rfl
   rw [hok]
   refine q00 1000 1 il14_eq (Nat.le_of_ble_eq_true rfl) ?_
   (repeat' first|simp only [il14c,go_sem,k1,k2,d3,d4]|with_reducible refine wX fun _=>?_|((with_reducible refine wY ?_ ?_); rfl)|fail)
   refine q06 w.bs encX (step:=fun i _ (_:Unit)=>if soundN w i=true then Ctl.go () else Ctl.out false) (fin:=fun _=>true)
    (St:=fun i _ e h=>(e 1=.t (.ip (nwC f w))∧e 35=.t (I (w.bs.length:Nat))∧e 36=.t (I (i:Nat)))∧h=[])
    (Ex:=fun r x e h=>r=true∧x=.exit 0∨r=false∧x=.ret∧e 2=.t (I 300)) (s:=()) (by omega) ?_ ?_ (by omega) ?_ ?_
   ·intro i x _ e h Y R hm hi hx hget hlt hw ⟨hs,hh⟩ hk
    subst hh
    have k3:=qff f w i q1 q2 q4 (by omega) hi (hz i hi)
    cases hb:soundN w i with
    | true =>
     rw [hb] at k3
     rw [if_pos hb,q01] at hk
     (repeat' first|simp only [il14l0_go,il14l0b,go_sem,hs,hlt,hw,k3]|with_reducible refine wX fun _=>?_|((with_reducible refine wY ?_ ?_); rfl)|fail)
     all_goals (refine hk _ _ ⟨?_,rfl⟩; simp only [go_sem,hs,hw])
    | false =>
     rw [hb] at k3
     rw [if_neg (by rw [hb]; simp),q04] at hk
     (repeat' first|simp only [il14l0_go,il14l0b,go_sem,hs,hlt,hw,k3]|with_reducible refine wX fun _=>?_|((with_reducible refine wY ?_ ?_); rfl)|fail)
     all_goals (refine hk _ _ _ (.inr ?_); simp only [go_sem])
   ·intro _ e h Y R hlt ⟨hs,hh⟩ hk
    subst hh
    (repeat' first|simp only [il14l0_go,il14l0b,go_sem,hs,hlt]|with_reducible refine wX fun _=>?_|((with_reducible refine wY ?_ ?_); rfl)|fail)
    all_goals (refine hk _ _ _ (.inl ?_); simp only [go_sem])
   ·refine ⟨?_,rfl⟩
    simp only [go_sem]
   ·intro x e h hx
    rw [q1a,← List.range_eq_range'] at hx
    rcases hx with ⟨hb,rfl⟩|⟨hb,rfl,e2⟩
    ·rw [hb,if_pos rfl]
     (repeat' first|simp only [il14c,go_sem]|with_reducible refine wX fun _=>?_|((with_reducible refine wY ?_ ?_); rfl)|fail)
    ·rw [hb,if_neg (by simp)]
     (repeat' first|simp only [il14c,go_sem,e2]|with_reducible refine wX fun _=>?_|((with_reducible refine wY ?_ ?_); rfl)|fail)
end Go.Proofs.YtbibdnlbpjnieaaGreat
namespace Go.Proofs.YtbibdnlbpjnieaaGreat
open Go Go.Abs
theorem qfg (c:Bool) (k:Nat):ans Tryz.prog pol 70 [.sl c k []]=some (.sl false k []):=q1S rfl
theorem qfh:ans Tryz.prog pol 70 [.sc (.slice none 0 0)]=some (.sc (.slice none 0 0)):=q0w (n:=10) 3 (by kernel_rfl)
theorem q3w (c:Bool) (l:List (Int)) (hl:l.length≤1000):ans Tryz.prog pol 70 [.sl c 1 (l.map I)]=some (.sl false 1 (l.map I)):=by
 cases l with
 | nil=>exact qfg c 1
 | cons x l =>
  have hroom:(l.length+1)*8≤roomB:=q08 (by simp at hl; omega) (by omega)
  refine q00 10 1 il70_eq (Nat.le_of_ble_eq_true rfl) ?_
  simp only [List.map_cons]
  (repeat' first|simp only [il70c,go_sem,hroom]|with_reducible refine wX fun _=>?_|((with_reducible refine wY ?_ ?_); rfl)|fail)
theorem qfi (c:Bool) (k:Nat):ans Tryz.prog pol 71 [.sl c k []]=some (.sl false k []):=q1S rfl
theorem qfj (c:Bool) (l:List (Bool)) (hl:l.length≤1000):ans Tryz.prog pol 71 [.sl c 1 (l.map B)]=some (.sl false 1 (l.map B)):=by
 cases l with
 | nil=>exact qfi c 1
 | cons x l =>
  have hroom:(l.length+1)*1≤roomB:=q08 (by simp at hl; omega) (by omega)
  refine q00 10 1 il71_eq (Nat.le_of_ble_eq_true rfl) ?_
  simp only [List.map_cons]
  (repeat' first|simp only [il71c,go_sem,hroom]|with_reducible refine wX fun _=>?_|((with_reducible refine wY ?_ ?_); rfl)|fail)
theorem qfk (c:Bool) (k:Nat):ans Tryz.prog pol 73 [.sl c k []]=some (.sl false k []):=q1S rfl
theorem qfl:ans Tryz.prog pol 73 [.sc (.slice none 0 0)]=some (.sc (.slice none 0 0)):=q0w (n:=10) 3 (by kernel_rfl)
theorem qfm (c:Bool) (l:List (Hd)) (hl:l.length≤1000):ans Tryz.prog pol 73 [.sl c 8 (l.map encH)]=some (.sl false 8 (l.map encH)):=by
 cases l with
 | nil=>exact qfk c 8
 | cons x l =>
  have hroom:(l.length+1)*64≤roomB:=q08 (by simp at hl; omega) (by omega)
  refine q00 10 1 il73_eq (Nat.le_of_ble_eq_true rfl) ?_
  simp only [List.map_cons]
  (repeat' first|simp only [il73c,go_sem,hroom]|with_reducible refine wX fun _=>?_|((with_reducible refine wY ?_ ?_); rfl)|fail)
theorem qfn (c:Bool) (k:Nat):ans Tryz.prog pol 72 [.sl c k []]=some (.sl false k []):=q1S rfl
theorem qfo (c:Bool) (l:List (Lk)) (hl:l.length≤1000):ans Tryz.prog pol 72 [.sl c 4 (l.map encK)]=some (.sl false 4 (l.map encK)):=by
 cases l with
 | nil=>exact qfn c 4
 | cons x l =>
  have hroom:(l.length+1)*32≤roomB:=q08 (by simp at hl; omega) (by omega)
  refine q00 10 1 il72_eq (Nat.le_of_ble_eq_true rfl) ?_
  simp only [List.map_cons]
  (repeat' first|simp only [il72c,go_sem,hroom]|with_reducible refine wX fun _=>?_|((with_reducible refine wY ?_ ?_); rfl)|fail)
theorem qfp {m:Nat} {x:AObj} {l:Heap}:(List.replicate m AObj.gone++x::l)[m]? = some x:=by rw [List.getElem?_append_right (by simp)]; simp
theorem q2w {m j:Nat} {l:Heap}:(List.replicate m AObj.gone++l)[m+j]? = l[j]?:=by rw [List.getElem?_append_right (by simp)]; simp
theorem qfq {m:Nat} {x y:AObj} {l:Heap}:List.set (List.replicate m AObj.gone++x::l) m y=List.replicate m AObj.gone++y::l:=by rw [List.set_append]; simp
theorem q3x {m j:Nat} {y:AObj} {l:Heap}:List.set (List.replicate m AObj.gone++l) (m+j) y=List.replicate m AObj.gone++l.set j y:=by
 rw [List.set_append,if_neg (by simp)]; simp
theorem q3y {m:Nat} {l:Heap}:(List.replicate m AObj.gone++l).drop m=l:=by simp
theorem qfr {m j:Nat} {l:Heap}:(List.replicate m AObj.gone++l).take (m+j)=List.replicate m AObj.gone++l.take j:=by
 rw [List.take_append]; simp
def apG (m:Nat):Option Heap→Option Heap
 | some l=>some (List.replicate m .gone++l)
 | none=>none
theorem q6o {m:Nat} {l:Heap}:apG m (some l)=some (List.replicate m .gone++l):=rfl
theorem q6p {m:Nat} {hx:Heap} {p:Nat→Bool} {l:Heap}:mapO (frzObj hx p) (List.replicate m .gone++l)=apG m (mapO (frzObj hx p) l):=by
 induction m with
 | zero=>simp only [List.replicate_zero,List.nil_append]; cases mapO (frzObj hx p) l <;> rfl
 | succ m ih =>
  rw [List.replicate_succ,List.cons_append]
  simp only [mapO,ih]
  cases mapO (frzObj hx p) l <;> simp [apG,frzObj,List.replicate_succ]
theorem qfs (c:Bool) (l:List Bool) (hl:l.length≤1000) (hne:l≠[]) (m dd nn:Nat) (hn:0 < nn) (Q:AV→Heap→Prop) (hQ:Q (.ms m l.length 0 l.length 1 false) (List.replicate m .gone++[.row 1 ((l.map B).map .t) 0])) :
  oB (inl Tryz.prog pol (ans Tryz.prog pol) nn (dd+1) (.fn 71) [.t (.sl c 1 (l.map B))] (List.replicate m .gone)) Q:=by
 cases l with
 | nil=>exact absurd rfl hne
 | cons x l =>
  have hroom:(l.length+1)*1≤roomB:=q08 (by simp at hl; omega) (by omega)
  refine q0b il71_eq (Nat.le_of_ble_eq_true rfl) ?_
  simp only [List.map_cons,List.length_cons] at hQ ⊢
  (repeat' first|simp only [il71c,go_sem,hroom,List.length_replicate]|with_reducible refine wX fun _=>?_|((with_reducible refine wY ?_ ?_); rfl)|fail)
  all_goals exact hQ
end Go.Proofs.YtbibdnlbpjnieaaGreat
