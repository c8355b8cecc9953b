/- Part 16 of the proof of PathBest. -/
import Derived.Test.YtnjaokhdeaeegaaB15
import Derived.Sort.AssemblyPlain
set_option linter.all false
set_option maxRecDepth 100000
set_option maxHeartbeats 4000000
namespace Go.Proofs.Ytnjaokhdeaeegaa
open Go Go.Abs
abbrev I (n:Int):T:=.sc (.int .i64 n)
abbrev B (b:Bool):T:=.sc (.bool b)
abbrev bidP (p n:Int):Prop:=(0≤p∧p≤15)∧(0≤n∧n≤11)
abbrev rankP (a b c d e f:Int):Prop:=bidP a b∧bidP d e∧(0≤c∧c≤1048576)∧(0≤f∧f≤47)
theorem qgL (a:Int):ans Try.prog pol 84 [I a]=some (B false):=by
 refine q02 1 1 il84_eq (Nat.le_of_ble_eq_true rfl) ?_
 (have hc:=hc0; repeat' first|simp only [hc,il84c,go_sem]|((with_reducible first|refine wG (fun hc=>?_) fun hc=>?_|refine wC (fun hc=>?_) fun hc=>?_) <;> try simp only [bq1,bq2] at hc)|with_reducible refine wX fun _=>?_|((with_reducible refine wY ?_ ?_); rfl)|fail)
theorem q6v (a b:Int):ans Try.prog pol 69 [I a,I b]=some (I (cmp3 a b)):=by
 refine q02 1 1 il69_eq (Nat.le_of_ble_eq_true rfl) ?_
 (have hc:=hc0; repeat' first|simp only [hc,il69c,go_sem,qgL]|((with_reducible first|refine wG (fun hc=>?_) fun hc=>?_|refine wC (fun hc=>?_) fun hc=>?_) <;> try simp only [bq1,bq2] at hc)|with_reducible refine wX fun _=>?_|((with_reducible refine wY ?_ ?_); rfl)|fail)
 (all_goals (first|rfl|(simp_all [cmp3]; done)|(simp_all [cmp3] <;> (first|done|(intros; omega)|(rw [decide_eq_false_iff_not]; intros; omega)|(rw [decide_eq_true_eq]; intros; omega)|(split <;> first|done|(intros; omega)|(simp_all <;> omega))))))
end Go.Proofs.Ytnjaokhdeaeegaa
namespace Go.Proofs.Ytnjaokhdeaeegaa
open Go Go.Abs
structure Lk where
 a:Int
 b:Int
 per:Int
 delay:Int
 deriving DecidableEq
def zLk:Lk:=⟨0,0,0,0⟩
abbrev lkT (l:Lk):T:=.agg [I l.a,I l.b,I l.per,I l.delay]
def encK (l:Lk):T:=lkT l
theorem q0r (l:Lk):(encK l).cells=[I l.a,I l.b,I l.per,I l.delay]:=rfl
structure Tpo where
 nodes:Int
 station:List Bool
 links:List Lk
abbrev tpC (c1 c2:Bool) (t:Tpo):List T:=[I t.nodes,.sl c1 1 (t.station.map B),.sl c2 4 (t.links.map encK)]
abbrev tpT (c1 c2:Bool) (t:Tpo):T:=.agg (tpC c1 c2 t)
def lnk (t:Tpo) (i:Nat):Lk:=t.links[i]?.getD zLk
def stA (t:Tpo) (n:Nat):Bool:=t.station[n]?.getD false
abbrev nodeP (t:Tpo) (n:Int):Prop:=0≤n∧n < t.nodes
def lk1 (t:Tpo) (l:Lk):Bool:=decide (nodeP t l.a∧nodeP t l.b∧l.a≠l.b)
def lk2 (t:Tpo) (l:Lk):Bool:=!(stA t l.a.toNat && stA t l.b.toNat)
def joins (l m:Lk):Bool:=decide (l.a=m.a∧l.b=m.b∨l.a=m.b∧l.b=m.a)
def lk3 (t:Tpo) (i:Nat) (l:Lk):Bool:=(t.links.take i).all (fun m=>!joins l m)
def lk4 (l:Lk):Bool:=decide ((1≤l.per∧l.per≤1000)∧0≤l.delay∧l.delay≤10000)
def lkOk (t:Tpo) (i:Nat) (l:Lk):Bool:=lk1 t l && (lk2 t l && (lk3 t i l && lk4 l))
def soundL (t:Tpo):Bool:=(List.range t.links.length).all (fun i=>lkOk t i (lnk t i))
theorem q6w (c1 c2:Bool) (t:Tpo) (n:Int):ans Try.prog pol 105 [tpT c1 c2 t,I n]=some (B (decide (nodeP t n))):=by
 refine q02 1 1 il105_eq (Nat.le_of_ble_eq_true rfl) ?_
 by_cases h:0≤n
 ·have e0:decide (0≤n)=true:=decide_eq_true h
  have e1:decide (0≤n∧n < t.nodes)=decide (n < t.nodes):=by simp [h]
  rw [e1]
  (have hc:=hc0; repeat' first|simp only [hc,il105c,go_sem,e0]|((with_reducible first|refine wG (fun hc=>?_) fun hc=>?_|refine wC (fun hc=>?_) fun hc=>?_) <;> try simp only [bq1,bq2] at hc)|with_reducible refine wX fun _=>?_|((with_reducible refine wY ?_ ?_); rfl)|fail)
 ·have e0:decide (0≤n)=false:=decide_eq_false h
  rw [decide_eq_false (fun k=>h k.1)]
  (have hc:=hc0; repeat' first|simp only [hc,il105c,go_sem,e0]|((with_reducible first|refine wG (fun hc=>?_) fun hc=>?_|refine wC (fun hc=>?_) fun hc=>?_) <;> try simp only [bq1,bq2] at hc)|with_reducible refine wX fun _=>?_|((with_reducible refine wY ?_ ?_); rfl)|fail)
theorem qgM (c1 c2:Bool) (t:Tpo) (i:Nat) (hi:i < t.links.length):ans Try.prog pol 104 [I (i:Nat),.ip (tpC c1 c2 t)]=some (B (lk1 t (lnk t i))):=by
 have hg:(t.links.map encK)[i]? = some (encK (lnk t i)):=by simp [lnk,hi]
 have k1:=q6w c1 c2 t (lnk t i).a
 have k2:=q6w c1 c2 t (lnk t i).b
 generalize lnk t i=l at *
 refine q02 1 1 il104_eq (Nat.le_of_ble_eq_true rfl) ?_
 simp only [lk1]
 by_cases h1:nodeP t l.a
 ·by_cases h2:nodeP t l.b
  ·have e1:=decide_eq_true h1
   have e2:=decide_eq_true h2
   by_cases h3:l.a=l.b
   ·have e3:=decide_eq_true h3
    rw [decide_eq_false (fun h=>h.2.2 h3)]
    (have hc:=hc0; repeat' first|simp only [hc,il104c,go_sem,hg,q0r,k1,k2,e1,e2,e3]|((with_reducible first|refine wG (fun hc=>?_) fun hc=>?_|refine wC (fun hc=>?_) fun hc=>?_) <;> try simp only [bq1,bq2] at hc)|with_reducible refine wX fun _=>?_|((with_reducible refine wY ?_ ?_); rfl)|fail)
   ·have e3:=decide_eq_false h3
    rw [decide_eq_true (⟨h1,h2,h3⟩:_∧_∧_)]
    (have hc:=hc0; repeat' first|simp only [hc,il104c,go_sem,hg,q0r,k1,k2,e1,e2,e3]|((with_reducible first|refine wG (fun hc=>?_) fun hc=>?_|refine wC (fun hc=>?_) fun hc=>?_) <;> try simp only [bq1,bq2] at hc)|with_reducible refine wX fun _=>?_|((with_reducible refine wY ?_ ?_); rfl)|fail)
  ·have e1:=decide_eq_true h1
   have e2:=decide_eq_false h2
   rw [decide_eq_false (fun h=>h2 h.2.1)]
   (have hc:=hc0; repeat' first|simp only [hc,il104c,go_sem,hg,q0r,k1,k2,e1,e2]|((with_reducible first|refine wG (fun hc=>?_) fun hc=>?_|refine wC (fun hc=>?_) fun hc=>?_) <;> try simp only [bq1,bq2] at hc)|with_reducible refine wX fun _=>?_|((with_reducible refine wY ?_ ?_); rfl)|fail)
 ·have e1:=decide_eq_false h1
  rw [decide_eq_false (fun h=>h1 h.1)]
  (have hc:=hc0; repeat' first|simp only [hc,il104c,go_sem,hg,q0r,k1,e1]|((with_reducible first|refine wG (fun hc=>?_) fun hc=>?_|refine wC (fun hc=>?_) fun hc=>?_) <;> try simp only [bq1,bq2] at hc)|with_reducible refine wX fun _=>?_|((with_reducible refine wY ?_ ?_); rfl)|fail)
theorem q1H (t:Tpo) {n:Int} (hs:(t.station.length:Int)=t.nodes) (h:nodeP t n):(t.station.map B)[n.toNat]? = some (B (stA t n.toNat))∧0≤n:=by
 obtain ⟨h1,h2⟩:=h
 have:n.toNat < t.station.length:=by omega
 exact ⟨by simp [stA,this],h1⟩
theorem qgN (c1 c2:Bool) (t:Tpo) (hs:(t.station.length:Int)=t.nodes) (i:Nat) (hi:i < t.links.length) (h1:lk1 t (lnk t i)=true):ans Try.prog pol 106 [I (i:Nat),.ip (tpC c1 c2 t)]=some (B (lk2 t (lnk t i))):=by
 have hg:(t.links.map encK)[i]? = some (encK (lnk t i)):=by simp [lnk,hi]
 obtain ⟨p1,p2,_⟩:=of_decide_eq_true h1
 obtain ⟨g1,q1⟩:=q1H t hs p1
 obtain ⟨g2,q2⟩:=q1H t hs p2
 generalize lnk t i=l at *
 refine q02 1 1 il106_eq (Nat.le_of_ble_eq_true rfl) ?_
 simp only [lk2]
 generalize stA t l.a.toNat=a at *
 generalize stA t l.b.toNat=b at *
 cases a <;> cases b
 all_goals (have hc:=hc0; repeat' first|simp only [hc,il106c,go_sem,hg,q0r,g1,g2,q1,q2]|((with_reducible first|refine wG (fun hc=>?_) fun hc=>?_|refine wC (fun hc=>?_) fun hc=>?_) <;> try simp only [bq1,bq2] at hc)|with_reducible refine wX fun _=>?_|((with_reducible refine wY ?_ ?_); rfl)|fail)
theorem qgO (c1 c2:Bool) (t:Tpo) (i:Nat) (hi:i < t.links.length):ans Try.prog pol 108 [I (i:Nat),.ip (tpC c1 c2 t)]=some (B (lk4 (lnk t i))):=by
 have hg:(t.links.map encK)[i]? = some (encK (lnk t i)):=by simp [lnk,hi]
 generalize lnk t i=l at *
 refine q02 1 1 il108_eq (Nat.le_of_ble_eq_true rfl) ?_
 simp only [lk4]
 (have hc:=hc0; repeat' first|simp only [hc,il108c,go_sem,hg,q0r]|((with_reducible first|refine wG (fun hc=>?_) fun hc=>?_|refine wC (fun hc=>?_) fun hc=>?_) <;> try simp only [bq1,bq2] at hc)|with_reducible refine wX fun _=>?_|((with_reducible refine wY ?_ ?_); rfl)|fail)
 (all_goals (first|rfl|(simp_all ; done)|(simp_all  <;> (first|done|(intros; omega)|(rw [decide_eq_false_iff_not]; intros; omega)|(rw [decide_eq_true_eq]; intros; omega)|(split <;> first|done|(intros; omega)|(simp_all <;> omega))))))
theorem qgP (c1 c2:Bool) (t:Tpo) (i:Nat) (hi:i < t.links.length) (hb:t.links.length≤100):ans Try.prog pol 107 [I (i:Nat),.ip (tpC c1 c2 t)]=some (B (lk3 t i (lnk t i))):=by
 have hg:(t.links.map encK)[i]? = some (encK (lnk t i)):=by simp [lnk,hi]
 have hle:i≤t.links.length:=Nat.le_of_lt hi
 have htk:(t.links.map encK).take i=(t.links.take i).map encK:=by rw [List.map_take]
 have hl:(t.links.take i).length=i:=by simp; omega
 simp only [lk3]
 generalize lnk t i=l at *
 generalize hq:t.links.take i=q at *
 refine q02 1000 1 il107_eq (Nat.le_of_ble_eq_true rfl) ?_
 (have hc:=hc0; repeat' first|simp only [hc,il107c,go_sem,hg,q0r,hle,htk]|((with_reducible first|refine wG (fun hc=>?_) fun hc=>?_|refine wC (fun hc=>?_) fun hc=>?_) <;> try simp only [bq1,bq2] at hc)|with_reducible refine wX fun _=>?_|((with_reducible refine wY ?_ ?_); rfl)|fail)
 generalize (c2 && decide (i=t.links.length))=cc
 refine q0h q encK (step:=fun _ m (_:Unit)=>if (!joins l m)=true then Ctl.go () else Ctl.out false) (fin:=fun _=>true)
  (St:=fun j _ e h=>(e 4=.ref 0 1 0 0∧e 15=.t (.sl cc 4 (q.map encK))∧e 16=.t (I (q.length:Nat))∧e 17=.t (I (j:Nat)))∧h=[.row 4 [.t (.agg [I l.a,I l.b,I l.per,I l.delay])] 1])
  (Ex:=fun r x e h=>r=true∧x=.exit 0∨r=false∧x=.ret∧e 3=.t (B false)) (s:=()) (by omega) ?_ ?_ (by omega) ?_ ?_
 ·intro j m _ e h Y R hm hj hx hget hlt hw ⟨hs,hh⟩ hk
  subst hh
  by_cases a1:l.a=m.a
  ·have d1:decide (l.a=m.a)=true:=decide_eq_true a1
   by_cases a2:l.b=m.b
   ·have d2:decide (l.b=m.b)=true:=decide_eq_true a2
    rw [if_neg (by rw [show joins l m=true from decide_eq_true (.inl ⟨a1,a2⟩)]; simp),q09] at hk
    (have hc:=hc0; repeat' first|simp only [hc,il107l0_go,il107l0b,go_sem,hs,hget,q0r,hlt,hw,d1,d2]|((with_reducible first|refine wG (fun hc=>?_) fun hc=>?_|refine wC (fun hc=>?_) fun hc=>?_) <;> try simp only [bq1,bq2] at hc)|with_reducible refine wX fun _=>?_|((with_reducible refine wY ?_ ?_); rfl)|fail)
    all_goals (refine hk _ _ _ (.inr ?_); simp only [go_sem])
   ·have d2:decide (l.b=m.b)=false:=decide_eq_false a2
    by_cases a3:l.a=m.b
    ·have d3:decide (l.a=m.b)=true:=decide_eq_true a3
     by_cases a4:l.b=m.a
     ·have d4:decide (l.b=m.a)=true:=decide_eq_true a4
      rw [if_neg (by rw [show joins l m=true from decide_eq_true (.inr ⟨a3,a4⟩)]; simp),q09] at hk
      (have hc:=hc0; repeat' first|simp only [hc,il107l0_go,il107l0b,go_sem,hs,hget,q0r,hlt,hw,d1,d2,d3,d4]|((with_reducible first|refine wG (fun hc=>?_) fun hc=>?_|refine wC (fun hc=>?_) fun hc=>?_) <;> try simp only [bq1,bq2] at hc)|with_reducible refine wX fun _=>?_|((with_reducible refine wY ?_ ?_); rfl)|fail)
      all_goals (refine hk _ _ _ (.inr ?_); simp only [go_sem])
     ·have d4:decide (l.b=m.a)=false:=decide_eq_false a4
      rw [if_pos (by rw [show joins l m=false from decide_eq_false (by omega)]; rfl),q05] at hk
      (have hc:=hc0; repeat' first|simp only [hc,il107l0_go,il107l0b,go_sem,hs,hget,q0r,hlt,hw,d1,d2,d3,d4]|((with_reducible first|refine wG (fun hc=>?_) fun hc=>?_|refine wC (fun hc=>?_) fun hc=>?_) <;> try simp only [bq1,bq2] at hc)|with_reducible refine wX fun _=>?_|((with_reducible refine wY ?_ ?_); rfl)|fail)
      all_goals (refine hk _ _ ⟨?_,rfl⟩; simp only [go_sem,hs,hw])
    ·have d3:decide (l.a=m.b)=false:=decide_eq_false a3
     rw [if_pos (by rw [show joins l m=false from decide_eq_false (by omega)]; rfl),q05] at hk
     (have hc:=hc0; repeat' first|simp only [hc,il107l0_go,il107l0b,go_sem,hs,hget,q0r,hlt,hw,d1,d2,d3]|((with_reducible first|refine wG (fun hc=>?_) fun hc=>?_|refine wC (fun hc=>?_) fun hc=>?_) <;> try simp only [bq1,bq2] at hc)|with_reducible refine wX fun _=>?_|((with_reducible refine wY ?_ ?_); rfl)|fail)
     all_goals (refine hk _ _ ⟨?_,rfl⟩; simp only [go_sem,hs,hw])
  ·have d1:decide (l.a=m.a)=false:=decide_eq_false a1
   by_cases a3:l.a=m.b
   ·have d3:decide (l.a=m.b)=true:=decide_eq_true a3
    by_cases a4:l.b=m.a
    ·have d4:decide (l.b=m.a)=true:=decide_eq_true a4
     rw [if_neg (by rw [show joins l m=true from decide_eq_true (.inr ⟨a3,a4⟩)]; simp),q09] at hk
     (have hc:=hc0; repeat' first|simp only [hc,il107l0_go,il107l0b,go_sem,hs,hget,q0r,hlt,hw,d1,d3,d4]|((with_reducible first|refine wG (fun hc=>?_) fun hc=>?_|refine wC (fun hc=>?_) fun hc=>?_) <;> try simp only [bq1,bq2] at hc)|with_reducible refine wX fun _=>?_|((with_reducible refine wY ?_ ?_); rfl)|fail)
     all_goals (refine hk _ _ _ (.inr ?_); simp only [go_sem])
    ·have d4:decide (l.b=m.a)=false:=decide_eq_false a4
     rw [if_pos (by rw [show joins l m=false from decide_eq_false (by omega)]; rfl),q05] at hk
     (have hc:=hc0; repeat' first|simp only [hc,il107l0_go,il107l0b,go_sem,hs,hget,q0r,hlt,hw,d1,d3,d4]|((with_reducible first|refine wG (fun hc=>?_) fun hc=>?_|refine wC (fun hc=>?_) fun hc=>?_) <;> try simp only [bq1,bq2] at hc)|with_reducible refine wX fun _=>?_|((with_reducible refine wY ?_ ?_); rfl)|fail)
     all_goals (refine hk _ _ ⟨?_,rfl⟩; simp only [go_sem,hs,hw])
   ·have d3:decide (l.a=m.b)=false:=decide_eq_false a3
    rw [if_pos (by rw [show joins l m=false from decide_eq_false (by omega)]; rfl),q05] at hk
    (have hc:=hc0; repeat' first|simp only [hc,il107l0_go,il107l0b,go_sem,hs,hget,q0r,hlt,hw,d1,d3]|((with_reducible first|refine wG (fun hc=>?_) fun hc=>?_|refine wC (fun hc=>?_) fun hc=>?_) <;> try simp only [bq1,bq2] at hc)|with_reducible refine wX fun _=>?_|((with_reducible refine wY ?_ ?_); rfl)|fail)
    all_goals (refine hk _ _ ⟨?_,rfl⟩; simp only [go_sem,hs,hw])
 ·intro _ e h Y R hlt ⟨hs,hh⟩ hk
  subst hh
  (have hc:=hc0; repeat' first|simp only [hc,il107l0_go,il107l0b,go_sem,hs,hlt]|((with_reducible first|refine wG (fun hc=>?_) fun hc=>?_|refine wC (fun hc=>?_) fun hc=>?_) <;> try simp only [bq1,bq2] at hc)|with_reducible refine wX fun _=>?_|((with_reducible refine wY ?_ ?_); rfl)|fail)
  all_goals (refine hk _ _ _ (.inl ?_); simp only [go_sem])
 ·refine ⟨?_,rfl⟩
  simp only [go_sem]
 ·intro x e h hx
  rw [foldC_all] at hx
  rcases hx with ⟨hb,rfl⟩|⟨hb,rfl,e2⟩
  ·(have hc:=hc0; repeat' first|simp only [hc,il107c,go_sem,hb]|((with_reducible first|refine wG (fun hc=>?_) fun hc=>?_|refine wC (fun hc=>?_) fun hc=>?_) <;> try simp only [bq1,bq2] at hc)|with_reducible refine wX fun _=>?_|((with_reducible refine wY ?_ ?_); rfl)|fail)
  ·(have hc:=hc0; repeat' first|simp only [hc,il107c,go_sem,e2,hb]|((with_reducible first|refine wG (fun hc=>?_) fun hc=>?_|refine wC (fun hc=>?_) fun hc=>?_) <;> try simp only [bq1,bq2] at hc)|with_reducible refine wX fun _=>?_|((with_reducible refine wY ?_ ?_); rfl)|fail)
end Go.Proofs.Ytnjaokhdeaeegaa
namespace Go.Proofs.Ytnjaokhdeaeegaa
open Go Go.Abs
structure Hd where
 is:Bool
 a:Int
 b:Int
 c:Int
 d:Int
 e:Int
 f:Int
 g:Int
 deriving DecidableEq
abbrev hdT (h:Hd):T:=.agg [B h.is,I h.a,I h.b,I h.c,I h.d,I h.e,I h.f,I h.g]
def encH (h:Hd):T:=hdT h
def zH:Hd:=⟨false,0,0,0,0,0,0,0⟩
structure Br where
 p:Int
 n:Int
 ports:List Int
 costs:List Int
 heard:List Hd
abbrev brC (c1 c2 c3:Bool) (b:Br):List T:=[I b.p,I b.n,.sl c1 1 (b.ports.map I),.sl c2 1 (b.costs.map I),.sl c3 8 (b.heard.map encH)]
def helloP (h:Hd):Prop:=rankP h.a h.b h.c h.d h.e h.f∧0≤h.g∧h.g≤20
instance (h:Hd):Decidable (helloP h):=inferInstanceAs (Decidable (_∧_))
def okH (h:Hd):Prop:=(h.is=true→helloP h)∧(h.is=false→h=zH)
instance (h:Hd):Decidable (okH h):=inferInstanceAs (Decidable (_∧_))
def prt (b:Br) (i:Nat):Int:=b.ports[i]?.getD 0
def cst (b:Br) (i:Nat):Int:=b.costs[i]?.getD 0
def hrd (b:Br) (i:Nat):Hd:=b.heard[i]?.getD zH
def okAt (b:Br) (i:Nat):Bool:=decide ((0≤prt b i∧prt b i < 48)∧(0 < i→prt b (i - 1) < prt b i)∧(1≤cst b i∧cst b i≤1000)∧okH (hrd b i))
def okL (b:Br):Prop:=b.ports.length≤24∧b.costs.length=b.ports.length∧b.heard.length=b.ports.length
instance (b:Br):Decidable (okL b):=inferInstanceAs (Decidable (_∧_))
def okB (b:Br):Bool:=decide (okL b) && decide (bidP b.p b.n) && (List.range b.ports.length).all (okAt b)
theorem q6x {α:Type} {p:Nat→Bool}:∀ (l:List α) (k:Nat),foldC (fun i _ (_:Unit)=>if p i then Ctl.go () else Ctl.out false) (fun _=>true) k l ()=(List.range' k l.length).all p:=by
 intro l
 induction l with
 | nil=>intro k; rfl
 | cons x l ih =>
  intro k
  rw [List.length_cons,List.range'_succ,List.all_cons]
  cases h:p k with
  | true=>rw [q0f (s':=()) (by simp [h]),ih,Bool.true_and]
  | false=>rw [q0q (r:=false) (by simp [h]),Bool.false_and]
end Go.Proofs.Ytnjaokhdeaeegaa
namespace Go.Proofs.Ytnjaokhdeaeegaa
open Go Go.Abs
theorem qgQ (c1 c2:Bool) (t:Tpo) (hs:(t.station.length:Int)=t.nodes) (hb:t.links.length≤100):ans Try.prog pol 88 [tpT c1 c2 t]=some (B (soundL t)):=by
 refine q02 1000 1 il88_eq (Nat.le_of_ble_eq_true rfl) ?_
 (repeat' first|simp only [il88c,go_sem]|with_reducible refine wX fun _=>?_|((with_reducible refine wY ?_ ?_); rfl)|fail)
 refine q0h t.links encK (step:=fun i _ (_:Unit)=>if lkOk t i (lnk t i)=true then Ctl.go () else Ctl.out false) (fin:=fun _=>true)
  (St:=fun i _ e h=>(e 3=.ref 0 1 0 0∧e 14=.t (I (t.links.length:Nat))∧e 15=.t (I (i:Nat))) ∧
   h=[.row 4 [.t (.agg [.fn (.func 104) [] [.ip (tpC c1 c2 t)],.fn (.func 106) [] [.ip (tpC c1 c2 t)],.fn (.func 107) [] [.ip (tpC c1 c2 t)],.fn (.func 108) [] [.ip (tpC c1 c2 t)]])] 1])
  (Ex:=fun r x e h=>r=true∧x=.exit 0∨r=false∧x=.ret∧e 2=.t (B false)) (s:=()) (by omega) ?_ ?_ (by omega) ?_ ?_
 ·intro i m _ e h Y R hm hi hx hget hlt hw ⟨hs',hh⟩ hk
  subst hh
  have k1:=qgM c1 c2 t i hi
  have k4:=qgO c1 c2 t i hi
  have k3:=qgP c1 c2 t i hi hb
  cases h1:lk1 t (lnk t i) with
  | false =>
   rw [h1] at k1
   rw [if_neg (by simp [lkOk,h1]),q09] at hk
   (repeat' first|simp only [il88l1_go,il88l1b,go_sem,hs',hlt,hw,k1]|with_reducible refine wX fun _=>?_|((with_reducible refine wY ?_ ?_); rfl)|((with_reducible refine q1d (body:=wc _ _ _ _ _ _ il88l0) ?_ ?_); exact Nat.le_of_ble_eq_true rfl; simp only [il88l0_go,il88l0b])|fail)
   all_goals (refine hk _ _ _ (.inr ?_); simp only [go_sem])
  | true =>
   have k2:=qgN c1 c2 t hs i hi h1
   rw [h1] at k1
   cases h2:lk2 t (lnk t i) with
   | false =>
    rw [h2] at k2
    rw [if_neg (by simp [lkOk,h2]),q09] at hk
    (repeat' first|simp only [il88l1_go,il88l1b,go_sem,hs',hlt,hw,k1,k2]|with_reducible refine wX fun _=>?_|((with_reducible refine wY ?_ ?_); rfl)|((with_reducible refine q1d (body:=wc _ _ _ _ _ _ il88l0) ?_ ?_); exact Nat.le_of_ble_eq_true rfl; simp only [il88l0_go,il88l0b])|fail)
    all_goals (refine hk _ _ _ (.inr ?_); simp only [go_sem])
   | true =>
    rw [h2] at k2
    cases h3:lk3 t i (lnk t i) with
    | false =>
     rw [h3] at k3
     rw [if_neg (by simp [lkOk,h3]),q09] at hk
     (repeat' first|simp only [il88l1_go,il88l1b,go_sem,hs',hlt,hw,k1,k2,k3]|with_reducible refine wX fun _=>?_|((with_reducible refine wY ?_ ?_); rfl)|((with_reducible refine q1d (body:=wc _ _ _ _ _ _ il88l0) ?_ ?_); exact Nat.le_of_ble_eq_true rfl; simp only [il88l0_go,il88l0b])|fail)
     all_goals (refine hk _ _ _ (.inr ?_); simp only [go_sem])
    | true =>
     rw [h3] at k3
     cases h4:lk4 (lnk t i) with
     | false =>
      rw [h4] at k4
      rw [if_neg (by simp [lkOk,h4]),q09] at hk
      (repeat' first|simp only [il88l1_go,il88l1b,go_sem,hs',hlt,hw,k1,k2,k3,k4]|with_reducible refine wX fun _=>?_|((with_reducible refine wY ?_ ?_); rfl)|((with_reducible refine q1d (body:=wc _ _ _ _ _ _ il88l0) ?_ ?_); exact Nat.le_of_ble_eq_true rfl; simp only [il88l0_go,il88l0b])|fail)
      all_goals (refine hk _ _ _ (.inr ?_); simp only [go_sem])
     | true =>
      rw [h4] at k4
      rw [if_pos (by simp [lkOk,h1,h2,h3,h4]),q05] at hk
      (repeat' first|simp only [il88l1_go,il88l1b,go_sem,hs',hlt,hw,k1,k2,k3,k4]|with_reducible refine wX fun _=>?_|((with_reducible refine wY ?_ ?_); rfl)|((with_reducible refine q1d (body:=wc _ _ _ _ _ _ il88l0) ?_ ?_); exact Nat.le_of_ble_eq_true rfl; simp only [il88l0_go,il88l0b])|fail)
      all_goals (refine hk _ _ ⟨?_,rfl⟩; simp only [go_sem,hs',hw])
 ·intro _ e h Y R hlt ⟨hs',hh⟩ hk
  subst hh
  (repeat' first|simp only [il88l1_go,il88l1b,go_sem,hs',hlt]|with_reducible refine wX fun _=>?_|((with_reducible refine wY ?_ ?_); rfl)|fail)
  all_goals (refine hk _ _ _ (.inl ?_); simp only [go_sem])
 ·refine ⟨?_,rfl⟩
  simp only [go_sem]
 ·intro x e h hx
  rw [q6x,← List.range_eq_range'] at hx
  simp only [soundL]
  rcases hx with ⟨hb,rfl⟩|⟨hb,rfl,e2⟩
  ·(repeat' first|simp only [il88c,go_sem,hb]|with_reducible refine wX fun _=>?_|((with_reducible refine wY ?_ ?_); rfl)|fail)
  ·(repeat' first|simp only [il88c,go_sem,e2,hb]|with_reducible refine wX fun _=>?_|((with_reducible refine wY ?_ ?_); rfl)|fail)
def rB (r:List Bool) (n:Int):Bool:=r[n.toNat]?.getD false
def rStep (cut:Nat→Bool) (i:Nat) (r:List Bool) (l:Lk):List Bool:=if (!cut i && (rB r l.a != rB r l.b))=true then (r.set l.a.toNat true).set l.b.toNat true else r
def rRound (cut:Nat→Bool):Nat→List Lk→List Bool→List Bool
 | _,[],r=>r
 | i,l::ls,r=>rRound cut (i+1) ls (rStep cut i r l)
def rIter (cut:Nat→Bool) (ls:List Lk):Nat→List Bool→List Bool
 | 0,r=>r
 | n+1,r=>rIter cut ls n (rRound cut 0 ls r)
def reachL (t:Tpo) (s:Nat) (cut:Nat→Bool):List Bool:=rIter cut t.links t.nodes.toNat ((List.replicate t.nodes.toNat false).set s true)
theorem q3L {r:List Bool} {n:Int} (h:n.toNat < r.length):((r.map B).map AV.t)[n.toNat]? = some (.t (B (rB r n))):=q1r (enc:=B) (by simp only [rB]; rw [List.getElem?_eq_getElem h]; rfl)
theorem qgR (cut:Nat→Bool) (i:Nat) (r:List Bool) (l:Lk):(rStep cut i r l).length=r.length:=by
 unfold rStep
 split <;> simp
theorem q6y (cut:Nat→Bool):∀ (ls:List Lk) (i:Nat) (r:List Bool),(rRound cut i ls r).length=r.length:=by
 intro ls
 induction ls with
 | nil=>intro i r; rfl
 | cons l ls ih=>intro i r; rw [rRound,ih,qgR]
theorem qgS (cut:Nat→Bool) (ls:List Lk):∀ (n:Nat) (r:List Bool),(rIter cut ls n r).length=r.length:=by
 intro n
 induction n with
 | zero=>intro r; rfl
 | succ n ih=>intro r; rw [rIter,ih,q6y]
theorem q2I (t:Tpo) (s:Nat) (cut:Nat→Bool):(reachL t s cut).length=t.nodes.toNat:=by rw [reachL,qgS]; simp
def endsP (t:Tpo) (l:Lk):Prop:=nodeP t l.a∧nodeP t l.b∧l.a≠l.b
theorem qgT (t:Tpo) (hv:∀ l∈t.links,endsP t l) (hb:t.links.length≤24) (cs:List Bool) (hcs:cs.length=24) (c1 c2:Bool) (N:Nat) (hN:(N:Int)=t.nodes) (x17 x18:T) (r:List Bool) (hr:r.length=N) (mr:Nat) (hmr:mr≤N)
  (J:Inl) (nn:Nat) (hn:100 < nn) (R:Xit→FEnv→Heap→Prop) (e:FEnv)
  (he:e 3=.t (.ip (tpC c1 c2 t))∧e 5=.t (.ip (cs.map B))∧e 7=.ms 0 N 0 N 1 true∧e 17=.t x17∧e 18=.t x18∧e 21=.t (.sl c2 4 (t.links.map encK))∧e 22=.t (I (t.links.length:Nat))∧e 23=.t (I 0))
  (hR:∀ e mr,mr≤N→(e 3=.t (.ip (tpC c1 c2 t))∧e 5=.t (.ip (cs.map B))∧e 7=.ms 0 N 0 N 1 true∧e 17=.t x17∧e 18=.t x18)→R (.exit 2) e [.row 1 (((rRound (fun i=>cs[i]?.getD false) 0 t.links r).map B).map .t) mr]) :
  wpIter 1 (some [3,5,7,17,18,21,22,23]) (wc Try.prog pol (ans Try.prog pol) J nn 90 il90l0) R nn e [.row 1 ((r.map B).map .t) mr]:=by
 have hst:∀ (r:List Bool) (n:Nat),(((r.map B).map AV.t).set n (.t (B true)))=((r.set n true).map B).map .t:=fun r n=>map_set (enc:=B)
 refine q0h t.links encK (step:=fun i l r=>.go (rStep (fun i=>cs[i]?.getD false) i r l)) (fin:=id)
  (St:=fun i r e h=>(e 3=.t (.ip (tpC c1 c2 t))∧e 5=.t (.ip (cs.map B))∧e 7=.ms 0 N 0 N 1 true∧e 17=.t x17∧e 18=.t x18∧e 21=.t (.sl c2 4 (t.links.map encK))∧e 22=.t (I (t.links.length:Nat))∧e 23=.t (I (i:Nat)))∧r.length=N∧∃ mr,mr≤N∧h=[.row 1 ((r.map B).map .t) mr])
  (Ex:=fun r x e h=>(e 3=.t (.ip (tpC c1 c2 t))∧e 5=.t (.ip (cs.map B))∧e 7=.ms 0 N 0 N 1 true∧e 17=.t x17∧e 18=.t x18)∧x=.exit 2∧∃ mr,mr≤N∧h=[.row 1 ((r.map B).map .t) mr]) (s:=r) (by omega) ?_ ?_ (by omega) ⟨he,hr,mr,hmr,rfl⟩ ?_
 ·intro i l r e h Y R hm hi hx hget hlt hw ⟨hs,hr,mr,hmr,hh⟩ hk
  subst hh
  simp only [q05] at hk
  obtain ⟨p1,p2,p3⟩:=hv l hm
  have q1:0≤l.a:=p1.1
  have q2:0≤l.b:=p2.1
  have q3:l.a.toNat < N:=by omega
  have q4:l.b.toNat < N:=by omega
  have hi24:i < 24:=by omega
  obtain ⟨cb,hcb⟩:∃ cb,cs[i]? = some cb:=⟨cs[i]'(by omega),by simp⟩
  have hcut:(fun i=>cs[i]?.getD false) i=cb:=by simp [hcb]
  have g0:(cs.map B).drop (i*1)=B cb::(cs.map B).drop (i+1):=by
   rw [Nat.mul_one,List.drop_eq_getElem_cons (by simp; omega)]
   congr 1
   have:=List.getElem?_eq_some_iff.1 hcb
   obtain ⟨h1,h2⟩:=this
   simp [h2]
  have g1:=q3L (r:=r) (n:=l.a) (by omega)
  have g2:=q3L (r:=r) (n:=l.b) (by omega)
  simp only [rStep,hcut] at hk
  cases cb with
  | true =>
   simp only [Bool.not_true,Bool.false_and,Bool.false_eq_true,if_false] at hk
   (repeat' first|simp only [il90l0_go,il90l0b,go_sem,hs,hget,q0r,hlt,hw,hi24,g0]|with_reducible refine wX fun _=>?_|((with_reducible refine wY ?_ ?_); rfl)|fail)
   all_goals (refine hk _ _ ⟨?_,hr,mr,hmr,?_⟩ <;> simp only [go_sem,hs,hw])
  | false =>
   by_cases hx2:(rB r l.a != rB r l.b)=true
   ·rw [if_pos (by rw [Bool.not_false,Bool.true_and]; exact hx2)] at hk
    have hl1:(r.set l.a.toNat true).length=N:=by simpa using hr
    have hl2:((r.set l.a.toNat true).set l.b.toNat true).length=N:=by simpa using hr
    have s1:=hst r l.a.toNat
    have s2:=hst (r.set l.a.toNat true) l.b.toNat
    have g3:=q3L (r:=r.set l.a.toNat true) (n:=l.b) (by rw [hl1]; exact q4)
    generalize rB (r.set l.a.toNat true) l.b=z at *
    generalize r.set l.a.toNat true=r1 at *
    generalize r1.set l.b.toNat true=r2 at *
    generalize rB r l.a=a at *
    generalize rB r l.b=b at *
    (repeat' first|simp only [il90l0_go,il90l0b,go_sem,hs,hget,q0r,hlt,hw,hi24,g0,q1,q2,q3,q4,g1,g2,g3,hx2,s1,s2,hr,hl1,hl2,hmr]|with_reducible refine wX fun _=>?_|((with_reducible refine wY ?_ ?_); rfl)|fail)
    all_goals (refine hk _ _ ⟨?_,hl2,N,Nat.le_refl _,?_⟩ <;> simp only [go_sem,hs,hw])
   ·have hx2':(rB r l.a != rB r l.b)=false:=by simpa using hx2
    rw [if_neg (by rw [Bool.not_false,Bool.true_and]; exact hx2)] at hk
    generalize rB r l.a=a at *
    generalize rB r l.b=b at *
    (repeat' first|simp only [il90l0_go,il90l0b,go_sem,hs,hget,q0r,hlt,hw,hi24,g0,q1,q2,q3,q4,g1,g2,hx2',hr,hmr]|with_reducible refine wX fun _=>?_|((with_reducible refine wY ?_ ?_); rfl)|fail)
    all_goals (refine hk _ _ ⟨?_,hr,mr,hmr,?_⟩ <;> simp only [go_sem,hs,hw])
 ·intro r e h Y R hlt ⟨hs,hr,mr,hmr,hh⟩ hk
  subst hh
  (repeat' first|simp only [il90l0_go,il90l0b,go_sem,hs,hlt]|with_reducible refine wX fun _=>?_|((with_reducible refine wY ?_ ?_); rfl)|fail)
  all_goals (refine hk _ _ _ ⟨?_,rfl,mr,hmr,rfl⟩; simp only [go_sem,hs,id])
 ·intro x e h ⟨h1,h2,mr,hmr,h3⟩
  subst h2 h3
  have hf:∀ (ls:List Lk) (i:Nat) (r:List Bool),foldC (ρ:=List Bool) (fun i l r=>Ctl.go (rStep (fun i=>cs[i]?.getD false) i r l)) id i ls r=rRound (fun i=>cs[i]?.getD false) i ls r:=by
   intro ls
   induction ls with
   | nil=>intro i r; rfl
   | cons l ls ih=>intro i r; rw [q0f (s':=rStep (fun i=>cs[i]?.getD false) i r l) rfl,ih]; rfl
  rw [hf] at *
  exact hR _ mr hmr h1
end Go.Proofs.Ytnjaokhdeaeegaa
namespace Go.Proofs.Ytnjaokhdeaeegaa
open Go Go.Abs
theorem sto_B:∀ cs:List Bool,storableAll ((cs.map B).map AV.t)=true:=by
 intro cs
 induction cs with
 | nil=>rfl
 | cons c cs ih=>simp only [List.map_cons,q62,ih]; rfl
theorem qgU (c1 c2:Bool) (t:Tpo) (hv:∀ l∈t.links,endsP t l) (hb:t.links.length≤24) (hn:0≤t.nodes∧t.nodes≤100) (s:Nat) (hs:(s:Int) < t.nodes) (cs:List Bool) (hcs:cs.length=24) :
  ans Try.prog pol 90 [tpT c1 c2 t,I (s:Nat),.agg (cs.map B)]=some (.sl true 1 ((reachL t s (fun i=>cs[i]?.getD false)).map B)):=by
 obtain ⟨nodes,station,links⟩:=t
 dsimp only at hv hb hn hs
 obtain ⟨N,rfl⟩:∃ N:Nat,nodes=(N:Int):=⟨nodes.toNat,by omega⟩
 have hNn:((N:Nat):Int).toNat=N:=by omega
 have hsN:s < N:=by omega
 have hroom:1*N≤roomB:=by rw [Nat.mul_comm]; exact q0I (by omega) (by omega)
 have hbig:N≤9223372036854775807:=by omega
 have hlen:=q2I ⟨N,station,links⟩ s (fun i=>cs[i]?.getD false)
 dsimp only at hlen
 rw [hNn] at hlen
 simp only [reachL,hNn] at hlen ⊢
 have hset:=map_set (enc:=B) (l:=List.replicate N false) (i:=s) (x:=true)
 simp only [List.map_replicate] at hset
 have hs0:((List.replicate N (AV.t (B false))))[s]? = some (.t (B false)):=by simp [hsN]
 have hl0:((List.replicate N false).set s true).length=N:=by simp
 generalize hr0:(List.replicate N false).set s true=r0 at *
 clear hr0
 have hsto:=sto_B cs
 refine q02 1000 1 il90_eq (Nat.le_of_ble_eq_true rfl) ?_
 (repeat' first|simp only [il90c,go_sem,hroom,hbig,hsN,hs0,hset,hsto,List.length_replicate]|with_reducible refine wX fun _=>?_|((with_reducible refine wY ?_ ?_); rfl)|fail)
 refine q0E N (step:=fun i r=>.go (rRound (fun i=>cs[i]?.getD false) 0 links r)) (fin:=id)
  (St:=fun i r e h=>(e 3=.t (.ip (tpC c1 c2 ⟨N,station,links⟩))∧e 5=.t (.ip (cs.map B))∧e 7=.ms 0 N 0 N 1 true∧e 17=.t (I (N:Nat))∧e 18=.t (I (i:Nat)))∧r.length=N∧∃ mr,mr≤N∧h=[.row 1 ((r.map B).map .t) mr])
  (Ex:=fun r x e h=>e 7=.ms 0 N 0 N 1 true∧r.length=N∧x=.exit 0∧∃ mr,mr≤N∧h=[.row 1 ((r.map B).map .t) mr]) (s:=r0) (by omega) ?_ ?_ (by omega) ?_ ?_
 ·intro i r e h Y R hi hlt hw ⟨hs',hr,mr,hmr,hh⟩ hk
  subst hh
  simp only [q05] at hk
  (repeat' first|simp only [il90l1_go,il90l1b,go_sem,hs',hlt]|with_reducible refine wX fun _=>?_|((with_reducible refine wY ?_ ?_); rfl)|fail)
  refine qgT ⟨N,station,links⟩ hv hb cs hcs c1 c2 N rfl (I (N:Nat)) (I (i:Nat)) r hr mr hmr _ _ (by omega) _ _ (by simp only [go_sem,hs']) ?_
  intro e' mr' hmr' he'
  (repeat' first|simp only [il90l1_go,il90l1b,go_sem,he',hw]|with_reducible refine wX fun _=>?_|((with_reducible refine wY ?_ ?_); rfl)|fail)
  all_goals (refine hk _ _ ⟨?_,by rw [q6y]; exact hr,mr',hmr',rfl⟩; simp only [go_sem,he',hw])
 ·intro r e h Y R hlt ⟨hs',hr,mr,hmr,hh⟩ hk
  subst hh
  (repeat' first|simp only [il90l1_go,il90l1b,go_sem,hs',hlt]|with_reducible refine wX fun _=>?_|((with_reducible refine wY ?_ ?_); rfl)|fail)
  all_goals (refine hk _ _ _ ⟨?_,hr,rfl,mr,hmr,rfl⟩; simp only [go_sem,hs'])
 ·refine ⟨?_,hl0,N,Nat.le_refl _,rfl⟩
  simp only [go_sem]
 ·intro x e h ⟨h1,hr,h2,mr,hmr,h3⟩
  have hf:∀ (n i:Nat) (r:List Bool),foldC (ρ:=List Bool) (fun (_:Nat) (_:Unit) r=>Ctl.go (rRound (fun i=>cs[i]?.getD false) 0 links r)) id i (List.replicate n ()) r=rIter (fun i=>cs[i]?.getD false) links n r:=by
   intro n
   induction n with
   | zero=>intro i r; rfl
   | succ n ih=>intro i r; rw [List.replicate_succ,q0f (s':=rRound (fun i=>cs[i]?.getD false) 0 links r) rfl,ih]; rfl
  rw [hf] at hr h3
  subst h2 h3
  (repeat' first|simp only [il90c,go_sem,h1,hr,hmr]|with_reducible refine wX fun _=>?_|((with_reducible refine wY ?_ ?_); rfl)|fail)
def idxL {α:Type} [DecidableEq α] (v:α):Nat→List α→Int
 | _,[]=>-1
 | i,x::r=>if x=v then (i:Nat) else idxL v (i+1) r
theorem q6z {α:Type} [DecidableEq α] {v:α}:∀ {l:List α} {i:Nat},v ∉ l→idxL v i l = -1:=by
 intro l
 induction l with
 | nil=>intro i _; rfl
 | cons x l ih =>
  intro i h
  rw [idxL,if_neg (fun e=>h (by simp [e])),ih (fun hm=>h (by simp [hm]))]
theorem q6A {α:Type} [DecidableEq α] {v:α}:∀ {l:List α} {i:Nat},v∈l→(i:Int)≤idxL v i l:=by
 intro l
 induction l with
 | nil=>intro i h; cases h
 | cons x l ih =>
  intro i h
  rw [idxL]
  split
  ·omega
  ·rename_i hx
   have:v∈l:=by
    cases h with
    | head=>exact absurd rfl hx
    | tail _ h=>exact h
   have:=ih (i:=i+1) this
   omega
theorem qgV (c:Bool) (l:List Int) (v:Int) (hl:l.length≤900):ans Try.prog pol 67 [.sl c 1 (l.map I),I v]=some (I (idxL v 0 l)):=by
 refine q02 1000 1 il67_eq (Nat.le_of_ble_eq_true rfl) ?_
 (repeat' first|simp only [il67c,go_sem]|with_reducible refine wX fun _=>?_|((with_reducible refine wY ?_ ?_); rfl)|fail)
 refine q0h l I (step:=fun i x (_:Unit)=>if x=v then Ctl.out ((i:Nat):Int) else Ctl.go ()) (fin:=fun _=>-1)
  (St:=fun i _ e h=>(e 0=.t (.sl c 1 (l.map I))∧e 1=.t (I v)∧e 7=.t (I (l.length:Nat))∧e 8=.t (I (i:Nat)))∧h=[])
  (Ex:=fun r x e h=>r = -1∧x=.exit 0∨x=.ret∧e 4=.t (I r)) (s:=()) (by omega) ?_ ?_ (by omega) ?_ ?_
 ·intro i x _ e h Y R hm hi hx hget hlt hw ⟨hs,hh⟩ hk
  subst hh
  by_cases q:x=v
  ·have d:decide (v=x)=true:=decide_eq_true q.symm
   rw [if_pos q,q09] at hk
   (repeat' first|simp only [il67l0_go,il67l0b,go_sem,hs,hget,hlt,d]|with_reducible refine wX fun _=>?_|((with_reducible refine wY ?_ ?_); rfl)|fail)
   all_goals (refine hk _ _ _ (.inr ?_); simp only [go_sem])
  ·have d:decide (v=x)=false:=decide_eq_false (fun e=>q e.symm)
   rw [if_neg q,q05] at hk
   (repeat' first|simp only [il67l0_go,il67l0b,go_sem,hs,hget,hlt,hw,d]|with_reducible refine wX fun _=>?_|((with_reducible refine wY ?_ ?_); rfl)|fail)
   all_goals (refine hk _ _ ⟨?_,rfl⟩; simp only [go_sem,hs,hw])
 ·intro _ e h Y R hlt ⟨hs,hh⟩ hk
  subst hh
  (repeat' first|simp only [il67l0_go,il67l0b,go_sem,hs,hlt]|with_reducible refine wX fun _=>?_|((with_reducible refine wY ?_ ?_); rfl)|fail)
  all_goals (refine hk _ _ _ (.inl ?_); simp only [go_sem])
 ·simp only [go_sem]
 ·intro x e h hx
  have hf:∀ (l:List Int) (i:Nat) (u:Unit),foldC (fun i x (_:Unit)=>if x=v then Ctl.out ((i:Nat):Int) else Ctl.go ()) (fun _=>-1) i l u=idxL v i l:=by
   intro l
   induction l with
   | nil=>intro i u; rfl
   | cons x l ih =>
    intro i u
    rw [idxL]
    by_cases q:x=v
    ·rw [q0q (r:=((i:Nat):Int)) (by rw [if_pos q]),if_pos q]
    ·rw [q0f (s':=()) (by rw [if_neg q]),ih,if_neg q]
  rw [hf] at hx
  rcases hx with ⟨hb,rfl⟩|⟨rfl,e2⟩
  ·rw [hb]
   (repeat' first|simp only [il67c,go_sem]|with_reducible refine wX fun _=>?_|((with_reducible refine wY ?_ ?_); rfl)|fail)
  ·(repeat' first|simp only [il67c,go_sem,e2]|with_reducible refine wX fun _=>?_|((with_reducible refine wY ?_ ?_); rfl)|fail)
theorem qgW (c:Bool) (l:List Bool) (hl:l.length≤900):ans Try.prog pol 109 [.sl c 1 (l.map B),B false]=some (I (idxL false 0 l)):=by
 refine q02 1000 1 il109_eq (Nat.le_of_ble_eq_true rfl) ?_
 (repeat' first|simp only [il109c,go_sem]|with_reducible refine wX fun _=>?_|((with_reducible refine wY ?_ ?_); rfl)|fail)
 refine q0h l B (step:=fun i x (_:Unit)=>if x=false then Ctl.out ((i:Nat):Int) else Ctl.go ()) (fin:=fun _=>-1)
  (St:=fun i _ e h=>(e 0=.t (.sl c 1 (l.map B))∧e 1=.t (B false)∧e 7=.t (I (l.length:Nat))∧e 8=.t (I (i:Nat)))∧h=[])
  (Ex:=fun r x e h=>r = -1∧x=.exit 0∨x=.ret∧e 4=.t (I r)) (s:=()) (by omega) ?_ ?_ (by omega) ?_ ?_
 ·intro i x _ e h Y R hm hi hx hget hlt hw ⟨hs,hh⟩ hk
  subst hh
  cases x with
  | false =>
   rw [if_pos rfl,q09] at hk
   (repeat' first|simp only [il109l0_go,il109l0b,go_sem,hs,hget,hlt]|with_reducible refine wX fun _=>?_|((with_reducible refine wY ?_ ?_); rfl)|fail)
   all_goals (refine hk _ _ _ (.inr ?_); simp only [go_sem])
  | true =>
   rw [if_neg (by simp),q05] at hk
   (repeat' first|simp only [il109l0_go,il109l0b,go_sem,hs,hget,hlt,hw]|with_reducible refine wX fun _=>?_|((with_reducible refine wY ?_ ?_); rfl)|fail)
   all_goals (refine hk _ _ ⟨?_,rfl⟩; simp only [go_sem,hs,hw])
 ·intro _ e h Y R hlt ⟨hs,hh⟩ hk
  subst hh
  (repeat' first|simp only [il109l0_go,il109l0b,go_sem,hs,hlt]|with_reducible refine wX fun _=>?_|((with_reducible refine wY ?_ ?_); rfl)|fail)
  all_goals (refine hk _ _ _ (.inl ?_); simp only [go_sem])
 ·simp only [go_sem]
 ·intro x e h hx
  have hf:∀ (l:List Bool) (i:Nat) (u:Unit),foldC (fun i x (_:Unit)=>if x=false then Ctl.out ((i:Nat):Int) else Ctl.go ()) (fun _=>-1) i l u=idxL false i l:=by
   intro l
   induction l with
   | nil=>intro i u; rfl
   | cons x l ih =>
    intro i u
    rw [idxL]
    by_cases q:x=false
    ·rw [q0q (r:=((i:Nat):Int)) (by rw [if_pos q]),if_pos q]
    ·rw [q0f (s':=()) (by rw [if_neg q]),ih,if_neg q]
  rw [hf] at hx
  rcases hx with ⟨hb,rfl⟩|⟨rfl,e2⟩
  ·rw [hb]
   (repeat' first|simp only [il109c,go_sem]|with_reducible refine wX fun _=>?_|((with_reducible refine wY ?_ ?_); rfl)|fail)
  ·(repeat' first|simp only [il109c,go_sem,e2]|with_reducible refine wX fun _=>?_|((with_reducible refine wY ?_ ?_); rfl)|fail)
theorem qgX (c:Bool) (l:List Bool) (hl:l.length≤900):ans Try.prog pol 89 [.sl c 1 (l.map B),B false]=some (B (decide (false∈l))):=by
 have k1:=qgW c l hl
 have d:decide (0≤idxL false 0 l)=decide (false∈l):=by
  by_cases h:false∈l
  ·have:=q6A (i:=0) h
   rw [decide_eq_true h,decide_eq_true (by omega:0≤idxL false 0 l)]
  ·rw [decide_eq_false h,q6z h]; rfl
 refine q02 1 1 il89_eq (Nat.le_of_ble_eq_true rfl) ?_
 (repeat' first|simp only [il89c,go_sem,k1,d]|with_reducible refine wX fun _=>?_|((with_reducible refine wY ?_ ?_); rfl)|fail)
end Go.Proofs.Ytnjaokhdeaeegaa
namespace Go.Proofs.Ytnjaokhdeaeegaa
open Go Go.Abs
def iA (m:List Int) (n:Int):Int:=m[n.toNat]?.getD 0
def dStep (m:List Int) (l:Lk):List Int :=
 let m1:=m.set l.a.toNat (iA m l.a+1)
 m1.set l.b.toNat (iA m1 l.b+1)
def degs (t:Tpo):List Int:=t.links.foldl dStep (List.replicate t.nodes.toNat 0)
def degOk (t:Tpo):Bool:=(List.range t.station.length).all (fun n=>!(stA t n) || decide (1≤iA (degs t) (n:Nat)∧iA (degs t) (n:Nat)≤2))
def sizeP (t:Tpo):Prop:=(2≤t.nodes∧t.nodes≤12)∧(t.station.length:Int)=t.nodes∧t.links.length≤24
instance (t:Tpo):Decidable (sizeP t):=inferInstanceAs (Decidable (_∧_))
def okT (t:Tpo):Bool:=decide (sizeP t) && (soundL t && (degOk t && !(decide (false∈reachL t 0 (fun _=>false)))))
theorem q6B {t:Tpo} (h:soundL t=true) {i:Nat} (hi:i < t.links.length):lkOk t i (lnk t i)=true:=List.all_eq_true.1 h i (by simp [hi])
theorem q6C {t:Tpo} (h:soundL t=true):∀ l∈t.links,endsP t l:=by
 intro l hl
 obtain ⟨i,hi,rfl⟩:=List.mem_iff_getElem.1 hl
 have:=q6B h hi
 simp only [lkOk,Bool.and_eq_true] at this
 have h1:=of_decide_eq_true this.1
 simpa [lnk,hi,endsP] using h1
theorem q3M {m:List Int} {n:Int} (h:n.toNat < m.length):((m.map I).map AV.t)[n.toNat]? = some (.t (I (iA m n))):=q1r (enc:=I) (by simp only [iA]; rw [List.getElem?_eq_getElem h]; rfl)
theorem iA_bd {m:List Int} {n:Int} {lo hi:Int} (h:∀ x∈m,lo≤x∧x≤hi) (h0:lo≤0∧0≤hi):lo≤iA m n∧iA m n≤hi:=by
 simp only [iA]
 cases hq:m[n.toNat]? with
 | none=>exact h0
 | some x=>exact h x (List.mem_of_getElem? hq)
theorem q6D {m:List Int} {i:Nat} {y lo hi:Int} (h:∀ x∈m,lo≤x∧x≤hi) (hy:lo≤y∧y≤hi+1):∀ x∈m.set i y,lo≤x∧x≤hi+1:=by
 intro x hx
 rcases List.mem_or_eq_of_mem_set hx with h1|rfl
 ·have:=h x h1; omega
 ·exact hy
theorem qgY {c1 c2:Bool} {t:Tpo} (h:¬ sizeP t):ans Try.prog pol 78 [tpT c1 c2 t]=some (I 260):=by
 refine q02 1 1 il78_eq (Nat.le_of_ble_eq_true rfl) ?_
 simp only [sizeP] at h
 by_cases h1:t.nodes < 2
 ·have e1:=decide_eq_true h1
  (repeat' first|simp only [il78c,go_sem,e1]|with_reducible refine wX fun _=>?_|((with_reducible refine wY ?_ ?_); rfl)|fail)
 have e1:=decide_eq_false h1
 by_cases h2:12 < t.nodes
 ·have e2:=decide_eq_true h2
  (repeat' first|simp only [il78c,go_sem,e1,e2]|with_reducible refine wX fun _=>?_|((with_reducible refine wY ?_ ?_); rfl)|fail)
 have e2:=decide_eq_false h2
 by_cases h3:(t.station.length:Int)=t.nodes
 rotate_left
 ·have e3:=decide_eq_false h3
  (repeat' first|simp only [il78c,go_sem,e1,e2,e3]|with_reducible refine wX fun _=>?_|((with_reducible refine wY ?_ ?_); rfl)|fail)
 have e3:=decide_eq_true h3
 have e4:decide ((24:Int) < (t.links.length:Nat))=true:=decide_eq_true (by omega)
 (repeat' first|simp only [il78c,go_sem,e1,e2,e3,e4]|with_reducible refine wX fun _=>?_|((with_reducible refine wY ?_ ?_); rfl)|fail)
theorem qgZ (t:Tpo) (hv:∀ l∈t.links,endsP t l) (hb:t.links.length≤24) (N:Nat) (hN:(N:Int)=t.nodes) (x1:T) (c2:Bool) (J:Inl) (nn:Nat) (hn:100 < nn) (R:Xit→FEnv→Heap→Prop) (e:FEnv)
  (he:e 1=.t x1∧e 3=.ms 0 N 0 N 1 true∧e 37=.t (.sl c2 4 (t.links.map encK))∧e 38=.t (I (t.links.length:Nat))∧e 39=.t (I 0))
  (hR:∀ e mr,mr≤N→(e 1=.t x1∧e 3=.ms 0 N 0 N 1 true)→R (.exit 0) e [.row 1 (((t.links.foldl dStep (List.replicate N 0)).map I).map .t) mr]) :
  wpIter 1 (some [1,3,37,38,39]) (wc Try.prog pol (ans Try.prog pol) J nn 78 il78l0) R nn e [.row 1 (((List.replicate N (0:Int)).map I).map .t) 0]:=by
 refine q0h t.links encK (step:=fun i l m=>.go (dStep m l)) (fin:=id)
  (St:=fun i m e h=>(e 1=.t x1∧e 3=.ms 0 N 0 N 1 true∧e 37=.t (.sl c2 4 (t.links.map encK))∧e 38=.t (I (t.links.length:Nat))∧e 39=.t (I (i:Nat)))∧m.length=N∧(∀ x∈m,0≤x∧x≤2*(i:Int))∧∃ mr,mr≤N∧h=[.row 1 ((m.map I).map .t) mr])
  (Ex:=fun m x e h=>(e 1=.t x1∧e 3=.ms 0 N 0 N 1 true)∧x=.exit 0∧∃ mr,mr≤N∧h=[.row 1 ((m.map I).map .t) mr]) (s:=List.replicate N 0) (by omega) ?_ ?_ (by omega) ⟨he,by simp,fun x hx=>by have:=(List.mem_replicate.1 hx).2; omega,0,by omega,rfl⟩ ?_
 ·intro i l m e h Y R hm hi hx hget hlt hw ⟨hs,hl,hbd,mr,hmr,hh⟩ hk
  subst hh
  simp only [q05] at hk
  obtain ⟨p1,p2,p3⟩:=hv l hm
  have q1:0≤l.a:=p1.1
  have q2:0≤l.b:=p2.1
  have q3:l.a.toNat < N:=by omega
  have q4:l.b.toNat < N:=by omega
  have g1:=q3M (m:=m) (n:=l.a) (by omega)
  have b1:=iA_bd (n:=l.a) hbd (by omega)
  have s1:=map_set (enc:=I) (l:=m) (i:=l.a.toNat) (x:=iA m l.a+1)
  have bd1:=q6D (i:=l.a.toNat) (y:=iA m l.a+1) hbd (by omega)
  have w1:IntKind.i64.wrap (iA m l.a+1)=iA m l.a+1:=q00 (by omega) (by omega)
  have hl1:(m.set l.a.toNat (iA m l.a+1)).length=N:=by simpa using hl
  simp only [dStep] at hk
  generalize hm1:m.set l.a.toNat (iA m l.a+1)=m1 at *
  have g2:=q3M (m:=m1) (n:=l.b) (by omega)
  have b2:=iA_bd (n:=l.b) bd1 (by omega)
  have s2:=map_set (enc:=I) (l:=m1) (i:=l.b.toNat) (x:=iA m1 l.b+1)
  have bd2:=q6D (i:=l.b.toNat) (y:=iA m1 l.b+1) bd1 (by omega)
  have w2:IntKind.i64.wrap (iA m1 l.b+1)=iA m1 l.b+1:=q00 (by omega) (by omega)
  have hl2:(m1.set l.b.toNat (iA m1 l.b+1)).length=N:=by simpa using hl1
  generalize m1.set l.b.toNat (iA m1 l.b+1)=m2 at *
  generalize iA m1 l.b=z at *
  generalize iA m l.a=v at *
  (repeat' first|simp only [il78l0_go,il78l0b,go_sem,hs,hget,q0r,hlt,hw,q1,q2,q3,q4,g1,s1,w1,g2,s2,w2,hl,hl1,hl2,hmr]|with_reducible refine wX fun _=>?_|((with_reducible refine wY ?_ ?_); rfl)|fail)
  all_goals (refine hk _ _ ⟨?_,hl2,fun x hx=>by have:=bd2 x hx; omega,N,Nat.le_refl _,?_⟩ <;> simp only [go_sem,hs,hw])
 ·intro m e h Y R hlt ⟨hs,hl,hbd,mr,hmr,hh⟩ hk
  subst hh
  (repeat' first|simp only [il78l0_go,il78l0b,go_sem,hs,hlt]|with_reducible refine wX fun _=>?_|((with_reducible refine wY ?_ ?_); rfl)|fail)
  all_goals (refine hk _ _ _ ⟨?_,rfl,mr,hmr,rfl⟩; simp only [go_sem,hs,id])
 ·intro x e h ⟨h1,h2,mr,hmr,h3⟩
  rw [q6e] at h3
  subst h2 h3
  exact hR _ mr hmr h1
theorem qh0 (t:Tpo):(degs t).length=t.nodes.toNat:=by
 have:∀ (ls:List Lk) (m:List Int),(ls.foldl dStep m).length=m.length:=by
  intro ls
  induction ls with
  | nil=>intro m; rfl
  | cons l ls ih=>intro m; rw [List.foldl_cons,ih]; simp [dStep]
 rw [degs,this]; simp
theorem qh1 (t:Tpo) (hl:t.station.length=(degs t).length) (hl2:t.station.length≤100) (N:Nat) (hN:N=(degs t).length) (mr:Nat) (hmr:mr≤N) (x1:T) (c1:Bool) (J:Inl) (nn:Nat) (hn:100 < nn) (R:Xit→FEnv→Heap→Prop) (e:FEnv)
  (he:e 1=.t x1∧e 3=.ms 0 N 0 N 1 true∧e 59=.t (.sl c1 1 (t.station.map B))∧e 60=.t (I (t.station.length:Nat))∧e 61=.t (I 0))
  (h1:degOk t=true→∀ e h,e 1=.t x1→R (.exit 2) e h) (h2:degOk t=false→∀ e h,e 2=.t (I 260)→R .ret e h) :
  wpIter 1 (some [1,3,59,60,61]) (wc Try.prog pol (ans Try.prog pol) J nn 78 il78l1) R nn e [.row 1 (((degs t).map I).map .t) mr]:=by
 refine q0h t.station B (step:=fun n _ (_:Unit)=>if (!(stA t n) || decide (1≤iA (degs t) (n:Nat)∧iA (degs t) (n:Nat)≤2))=true then Ctl.go () else Ctl.out false) (fin:=fun _=>true)
  (St:=fun i _ e h=>(e 1=.t x1∧e 3=.ms 0 N 0 N 1 true∧e 59=.t (.sl c1 1 (t.station.map B))∧e 60=.t (I (t.station.length:Nat))∧e 61=.t (I (i:Nat)))∧h=[.row 1 (((degs t).map I).map .t) mr])
  (Ex:=fun r x e h=>r=true∧x=.exit 2∧e 1=.t x1∨r=false∧x=.ret∧e 2=.t (I 260)) (s:=()) (by omega) ?_ ?_ (by omega) ⟨he,rfl⟩ ?_
 ·intro i b _ e h Y R hm hi hx hget hlt hw ⟨hs,hh⟩ hk
  subst hh
  have hb:stA t i=b:=by simp [stA,hx]
  rw [hb] at hk
  have hiN:i < N:=by omega
  have g1:=q3M (m:=degs t) (n:=(i:Nat)) (by rw [Int.toNat_natCast]; omega)
  rw [Int.toNat_natCast] at g1
  have hlN:(degs t).length=N:=hN.symm
  generalize iA (degs t) (i:Nat)=v at *
  cases b with
  | false =>
   rw [if_pos (by simp),q05] at hk
   (repeat' first|simp only [il78l1_go,il78l1b,go_sem,hs,hget,hlt,hw]|with_reducible refine wX fun _=>?_|((with_reducible refine wY ?_ ?_); rfl)|fail)
   all_goals (refine hk _ _ ⟨?_,rfl⟩; simp only [go_sem,hs,hw])
  | true =>
   by_cases q1:v < 1
   ·have d1:=decide_eq_true q1
    rw [if_neg (by simp; omega),q09] at hk
    (repeat' first|simp only [il78l1_go,il78l1b,go_sem,hs,hget,hlt,hw,hiN,g1,hlN,hmr,d1]|with_reducible refine wX fun _=>?_|((with_reducible refine wY ?_ ?_); rfl)|fail)
    all_goals (refine hk _ _ _ (.inr ?_); simp only [go_sem])
   ·have d1:=decide_eq_false q1
    by_cases q2:2 < v
    ·have d2:=decide_eq_true q2
     rw [if_neg (by simp; omega),q09] at hk
     (repeat' first|simp only [il78l1_go,il78l1b,go_sem,hs,hget,hlt,hw,hiN,g1,hlN,hmr,d1,d2]|with_reducible refine wX fun _=>?_|((with_reducible refine wY ?_ ?_); rfl)|fail)
     all_goals (refine hk _ _ _ (.inr ?_); simp only [go_sem])
    ·have d2:=decide_eq_false q2
     rw [if_pos (by simp; omega),q05] at hk
     (repeat' first|simp only [il78l1_go,il78l1b,go_sem,hs,hget,hlt,hw,hiN,g1,hlN,hmr,d1,d2]|with_reducible refine wX fun _=>?_|((with_reducible refine wY ?_ ?_); rfl)|fail)
     all_goals (refine hk _ _ ⟨?_,rfl⟩; simp only [go_sem,hs,hw])
 ·intro _ e h Y R hlt ⟨hs,hh⟩ hk
  subst hh
  (repeat' first|simp only [il78l1_go,il78l1b,go_sem,hs,hlt]|with_reducible refine wX fun _=>?_|((with_reducible refine wY ?_ ?_); rfl)|fail)
  all_goals (refine hk _ _ _ (.inl ?_); simp only [go_sem,hs])
 ·intro x e h hx
  rw [q6x,← List.range_eq_range'] at hx
  rcases hx with ⟨hb,rfl,e1⟩|⟨hb,rfl,e2⟩
  ·exact h1 hb e h e1
  ·exact h2 hb e h e2
theorem qh2 (c1 c2:Bool) (t:Tpo):ans Try.prog pol 78 [tpT c1 c2 t]=some (I (if okT t=true then 0 else 260)):=by
 by_cases hz:sizeP t
 rotate_left
 ·rw [qgY hz,if_neg (by simp [okT,decide_eq_false hz])]
 have hz':=hz
 obtain ⟨⟨z1,z2⟩,z3,z4⟩:=hz
 have e1:decide (t.nodes < 2)=false:=decide_eq_false (by omega)
 have e2:decide ((12:Int) < t.nodes)=false:=decide_eq_false (by omega)
 have e3:decide ((t.station.length:Int)=t.nodes)=true:=decide_eq_true z3
 have e4:decide ((24:Int) < (t.links.length:Nat))=false:=decide_eq_false (by omega)
 have k1:=qgQ c1 c2 t z3 (by omega)
 have ho:okT t=(soundL t && (degOk t && !(decide (false∈reachL t 0 (fun _=>false))))):=by rw [okT,decide_eq_true hz',Bool.true_and]
 cases hs:soundL t with
 | false =>
  rw [hs] at k1
  rw [if_neg (by rw [ho,hs]; simp)]
  refine q02 1 1 il78_eq (Nat.le_of_ble_eq_true rfl) ?_
  (repeat' first|simp only [il78c,go_sem,e1,e2,e3,e4,k1]|with_reducible refine wX fun _=>?_|((with_reducible refine wY ?_ ?_); rfl)|fail)
 | true =>
  rw [hs] at k1
  have hv:=q6C hs
  obtain ⟨N,hN⟩:∃ N:Nat,t.nodes=(N:Int):=⟨t.nodes.toNat,by omega⟩
  have hNn:t.nodes.toNat=N:=by omega
  have hroom:8*N≤roomB:=by rw [Nat.mul_comm]; exact q0I (by omega) (by omega)
  have hbig:N≤9223372036854775807:=by omega
  have hpos:0≤t.nodes:=by omega
  have hdeg:t.links.foldl dStep (List.replicate N 0)=degs t:=by rw [degs,hNn]
  have hdl:=qh0 t
  rw [hNn] at hdl
  have k2:=qgU c1 c2 t hv z4 (by omega) 0 (by omega) (List.replicate 24 false) rfl
  have hfun:(fun i:Nat=>(List.replicate 24 false:List Bool)[i]?.getD false)=fun _=>false:=by
   funext i
   rw [List.getElem?_replicate]
   split <;> rfl
  rw [hfun] at k2
  have hrl:=q2I t 0 (fun _=>false)
  have k3:=qgX true (reachL t 0 (fun _=>false)) (by omega)
  simp only [List.replicate_succ,List.replicate_zero,List.map_cons,List.map_nil,Int.natCast_zero] at k2
  generalize reachL t 0 (fun _=>false)=rl at *
  have hmap:List.replicate N (AV.t (T.sc (Value.int IntKind.i64 0)))=((List.replicate N (0:Int)).map I).map .t:=by simp
  refine q02 1000 1 il78_eq (Nat.le_of_ble_eq_true rfl) ?_
  (repeat' first|simp only [il78c,go_sem,e1,e2,e3,e4,k1,hroom,hbig,hpos,hNn]|with_reducible refine wX fun _=>?_|((with_reducible refine wY ?_ ?_); rfl)|fail)
  rw [hmap]
  refine qgZ t hv z4 N hN.symm (.ip (tpC c1 c2 t)) c2 _ _ (by omega) _ _ (by simp only [go_sem]) ?_
  intro e mr hmr he
  rw [hdeg]
  (repeat' first|simp only [il78c,go_sem,he]|with_reducible refine wX fun _=>?_|((with_reducible refine wY ?_ ?_); rfl)|fail)
  refine qh1 t (by omega) (by omega) N hdl.symm mr hmr (.ip (tpC c1 c2 t)) c1 _ _ (by omega) _ _ (by simp only [go_sem,he]) ?_ ?_
  ·intro hd e h he
   cases hc:decide (false∈rl) with
   | false =>
    rw [hc] at k3
    rw [if_pos (by rw [ho,hs,hd,hc]; rfl)]
    (repeat' first|simp only [il78c,go_sem,he,k2,k3]|with_reducible refine wX fun _=>?_|((with_reducible refine wY ?_ ?_); rfl)|fail)
   | true =>
    rw [hc] at k3
    rw [if_neg (by rw [ho,hs,hd,hc]; simp)]
    (repeat' first|simp only [il78c,go_sem,he,k2,k3]|with_reducible refine wX fun _=>?_|((with_reducible refine wY ?_ ?_); rfl)|fail)
  ·intro hd e h he
   rw [if_neg (by rw [ho,hs,hd]; simp)]
   (repeat' first|simp only [il78c,go_sem,he]|with_reducible refine wX fun _=>?_|((with_reducible refine wY ?_ ?_); rfl)|fail)
theorem q3N {c1 c2:Bool} {t:Tpo} (h:okT t=true):ans Try.prog pol 78 [tpT c1 c2 t]=some (I 0):=by rw [qh2,if_pos h]
end Go.Proofs.Ytnjaokhdeaeegaa
namespace Go.Proofs.Ytnjaokhdeaeegaa
open Go Go.Abs
def frP (t:Tpo) (p:Nat):Int:=if p % 2=0 then (lnk t (p / 2)).a else (lnk t (p / 2)).b
def toP (t:Tpo) (p:Nat):Int:=if p % 2=0 then (lnk t (p / 2)).b else (lnk t (p / 2)).a
def portsL (t:Tpo) (n:Int):List Nat:=(List.range (2*t.links.length)).filter (fun p=>decide (frP t p=n))
abbrev endC (l:Lk) (p:Nat):List T:=[I l.a,I l.b,I l.per,I l.delay,I (p:Nat)]
abbrev endT (l:Lk) (p:Nat):T:=.agg (endC l p)
abbrev ofN (n:Nat):Int:=(n:Int)
theorem tmod2 (p:Nat):Int.tmod (p:Int) 2=((p % 2:Nat):Int):=rfl
theorem tdiv2 (p:Nat):Int.tdiv (p:Int) 2=((p / 2:Nat):Int):=rfl
theorem qh3 (l:Lk) (p:Nat):ans Try.prog pol 92 [endT l p]=some (I (if p % 2=0 then l.a else l.b)):=by
 have m:=tmod2 p
 refine q02 1 1 il92_eq (Nat.le_of_ble_eq_true rfl) ?_
 by_cases h:p % 2=0
 ·rw [if_pos h]
  have d:decide (((p % 2:Nat):Int)=0)=true:=decide_eq_true (by omega)
  (have hc:=hc0; repeat' first|simp only [hc,il92c,go_sem,m,d]|((with_reducible first|refine wG (fun hc=>?_) fun hc=>?_|refine wC (fun hc=>?_) fun hc=>?_) <;> try simp only [bq1,bq2] at hc)|with_reducible refine wX fun _=>?_|((with_reducible refine wY ?_ ?_); rfl)|fail)
 ·rw [if_neg h]
  have d:decide (((p % 2:Nat):Int)=0)=false:=decide_eq_false (by omega)
  (have hc:=hc0; repeat' first|simp only [hc,il92c,go_sem,m,d]|((with_reducible first|refine wG (fun hc=>?_) fun hc=>?_|refine wC (fun hc=>?_) fun hc=>?_) <;> try simp only [bq1,bq2] at hc)|with_reducible refine wX fun _=>?_|((with_reducible refine wY ?_ ?_); rfl)|fail)
theorem qh4 (l:Lk) (p:Nat):ans Try.prog pol 93 [endT l p]=some (I (if p % 2=0 then l.b else l.a)):=by
 have m:=tmod2 p
 refine q02 1 1 il93_eq (Nat.le_of_ble_eq_true rfl) ?_
 by_cases h:p % 2=0
 ·rw [if_pos h]
  have d:decide (((p % 2:Nat):Int)=0)=true:=decide_eq_true (by omega)
  (have hc:=hc0; repeat' first|simp only [hc,il93c,go_sem,m,d]|((with_reducible first|refine wG (fun hc=>?_) fun hc=>?_|refine wC (fun hc=>?_) fun hc=>?_) <;> try simp only [bq1,bq2] at hc)|with_reducible refine wX fun _=>?_|((with_reducible refine wY ?_ ?_); rfl)|fail)
 ·rw [if_neg h]
  have d:decide (((p % 2:Nat):Int)=0)=false:=decide_eq_false (by omega)
  (have hc:=hc0; repeat' first|simp only [hc,il93c,go_sem,m,d]|((with_reducible first|refine wG (fun hc=>?_) fun hc=>?_|refine wC (fun hc=>?_) fun hc=>?_) <;> try simp only [bq1,bq2] at hc)|with_reducible refine wX fun _=>?_|((with_reducible refine wY ?_ ?_); rfl)|fail)
theorem q0d {t:Tpo} (h:okT t=true):sizeP t:=by
 simp only [okT,Bool.and_eq_true] at h
 exact of_decide_eq_true h.1
theorem qh5 (c1 c2:Bool) (t:Tpo) (p:Nat) (h:okT t=true) (hp:p < 2*t.links.length):ans Try.prog pol 80 [tpT c1 c2 t,I (p:Nat)]=some (.tup [I (toP t p),I 0]):=by
 obtain ⟨z1,z2,z3⟩:=q0d h
 have k1:=q3N (c1:=c1) (c2:=c2) h
 have hi:p / 2 < t.links.length:=by omega
 have hg:(t.links.map encK)[p / 2]? = some (encK (lnk t (p / 2))):=by simp [lnk,hi]
 have k2:=qh4 (lnk t (p / 2)) p
 have v1:IntKind.i64.wrap (2*(t.links.length:Nat))=((2*t.links.length:Nat):Int):=q00 (by omega) (by omega)
 have d1:decide (((p:Nat):Int) < 0)=false:=decide_eq_false (by omega)
 have d2:decide (((2*t.links.length:Nat):Int)≤(p:Nat))=false:=decide_eq_false (by omega)
 have v2:IntKind.i64.wrap (Int.tdiv (p:Nat) 2)=((p / 2:Nat):Int):=by rw [tdiv2]; exact q00 (by omega) (by omega)
 simp only [toP]
 generalize lnk t (p / 2)=l at *
 have k3:ans Try.prog pol 91 [tpT c1 c2 t,I (p:Nat),.fn (.func 93) [] []]=some (.tup [I (if p % 2=0 then l.b else l.a),I 0]):=by
  refine q02 1 1 il91_eq (Nat.le_of_ble_eq_true rfl) ?_
  (have hc:=hc0; repeat' first|simp only [hc,il91c,go_sem,k1,v1,d1,d2,v2,hg,q0r,k2]|((with_reducible first|refine wG (fun hc=>?_) fun hc=>?_|refine wC (fun hc=>?_) fun hc=>?_) <;> try simp only [bq1,bq2] at hc)|with_reducible refine wX fun _=>?_|((with_reducible refine wY ?_ ?_); rfl)|fail)
 refine q02 1 1 il80_eq (Nat.le_of_ble_eq_true rfl) ?_
 (have hc:=hc0; repeat' first|simp only [hc,il80c,go_sem,k3]|((with_reducible first|refine wG (fun hc=>?_) fun hc=>?_|refine wC (fun hc=>?_) fun hc=>?_) <;> try simp only [bq1,bq2] at hc)|with_reducible refine wX fun _=>?_|((with_reducible refine wY ?_ ?_); rfl)|fail)
section
variable {σ:Type} (hp:σ→Heap) (N:Nat) (hN:∀ s,(hp s).length=N) (nx:σ→Nat→σ) (dd nn o:Nat) (Iv:Nat→σ→Prop) (t:Tpo)
 (hiv:∀ p s,Iv p s→Iv (p+1) (nx s p))
 (hy:∀ (s:σ) (p:Nat) (X:Heap) (Q:AV→Heap→Prop),p < 2*t.links.length→Iv p s→(∀ X',Q (.t (B true)) (hp (nx s p)++X++X'))→oB (inl Try.prog pol (ans Try.prog pol) nn dd (.yl o) [.t (endT (lnk t (p / 2)) p)] (hp s++X)) Q)
 (hfz:∀ (s:σ) (h:Heap) (q:Nat),N≤q→mapO (frzObj h (fromB q)) (hp s)=some (hp s)) (hoN:o < N)
include hN hiv hy hfz hoN
end
theorem qh6 {k:Nat} {enc:Int→T} {l:List Int} {h:Heap} {p:Nat→Bool}:frzObj h p (rowG k enc l)=some (rowG k enc l):=by simp only [rowG,frzObj,q23,if_true]
end Go.Proofs.Ytnjaokhdeaeegaa
namespace Go.Proofs.Ytnjaokhdeaeegaa
open Go Go.Abs
def frN (t:Tpo) (p:Nat):Nat:=(frP t p).toNat
def toN (t:Tpo) (p:Nat):Nat:=(toP t p).toNat
def dlP (t:Tpo) (p:Nat):Int:=(lnk t (p / 2)).delay
def grT (t:Tpo):Gr:=⟨2*t.links.length,frN t,toN t,dlP t⟩
section
variable {t:Tpo} (h:okT t=true)
include h
theorem lk_ok {i:Nat} (hi:i < t.links.length):lkOk t i (lnk t i)=true:=by
 have h0:=h
 simp only [okT,Bool.and_eq_true] at h0
 exact q6B h0.2.1 hi
theorem qh7 {p:Nat} (hp:p < 2*t.links.length):(0≤frP t p∧frP t p < t.nodes)∧(0≤toP t p∧toP t p < t.nodes)∧frP t p≠toP t p:=by
 have h1:=lk_ok h (i:=p / 2) (by omega)
 simp only [lkOk,lk1,Bool.and_eq_true,decide_eq_true_eq] at h1
 obtain ⟨⟨a,b,c⟩,_⟩:=h1
 unfold frP toP
 split
 ·exact ⟨a,b,c⟩
 ·exact ⟨b,a,fun e=>c e.symm⟩
theorem q0l {p:Nat} (hp:p < 2*t.links.length):frP t p=((frN t p:Nat):Int)∧toP t p=((toN t p:Nat):Int)∧frN t p < t.nodes.toNat∧toN t p < t.nodes.toNat∧frN t p≠toN t p:=by
 obtain ⟨⟨a,b⟩,⟨c,d⟩,e⟩:=qh7 h hp
 unfold frN toN
 omega
theorem dl_ok (p:Nat):0≤dlP t p∧dlP t p≤10000:=by
 unfold dlP
 by_cases hi:p / 2 < t.links.length
 ·have h1:=lk_ok h hi
  simp only [lkOk,lk4,Bool.and_eq_true,decide_eq_true_eq] at h1
  exact h1.2.2.2.2
 ·have:lnk t (p / 2)=zLk:=by simp [lnk,show ¬ p / 2 < t.links.length from hi]
  rw [this]
  simp [zLk]
theorem gr_w (p:Nat):0≤(grT t).w p:=(dl_ok h p).1
theorem gr_x (p:Nat) (hp:p < (grT t).P):(grT t).fr p≠(grT t).to p:=(q0l h hp).2.2.2.2
omit h in
theorem gr_bk (p q:Nat) (hp:p < (grT t).P) (hq:q < (grT t).P) (hpq:p / 2=q / 2):p=q∨(grT t).fr p=(grT t).to q∧(grT t).to p=(grT t).fr q:=by
 by_cases he:p=q
 ·exact .inl he
 ·right
  show (frP t p).toNat=(toP t q).toNat∧(toP t p).toNat=(frP t q).toNat
  unfold frP toP
  rw [hpq]
  by_cases h1:p % 2=0
  ·have h2:¬ q % 2=0:=by omega
   rw [if_pos h1,if_pos h1,if_neg h2,if_neg h2]; exact ⟨rfl,rfl⟩
  ·have h2:q % 2=0:=by omega
   rw [if_neg h1,if_neg h1,if_pos h2,if_pos h2]; exact ⟨rfl,rfl⟩
end
end Go.Proofs.Ytnjaokhdeaeegaa
namespace Go.Proofs.Ytnjaokhdeaeegaa
open Go Go.Abs
abbrev U8 (n:Int):T:=.sc (.int .u8 n)
def u8P (l:List Int):Prop:=(∀ x∈l,0≤x∧x < 256)∧l.length < 9223372036854775808
def pkL (l:List Int) (i:Nat):Int:=l[i]?.getD 0
theorem q0J {l:List Int} (h:u8P l) (i:Nat):0≤pkL l i∧pkL l i < 256:=by
 unfold pkL
 cases hq:l[i]? with
 | none=>simp
 | some x=>exact h.1 x (List.mem_of_getElem? hq)
theorem q1s (c:Bool) (l:List Int) (i:Nat) (h:u8P l):ans Try.prog pol 65 [.sl c 1 (l.map U8),I (i:Nat)]=some (I (pkL l i)):=by
 refine q02 1 1 il65_eq (Nat.le_of_ble_eq_true rfl) ?_
 by_cases hi:i < l.length
 ·have d1:decide ((i:Int) < (l.length:Nat))=true:=decide_eq_true (by omega)
  have hg:(l.map U8)[i]? = some (U8 (pkL l i)):=by simp [pkL,hi]
  have hb:=q0J h i
  have v1:IntKind.i64.wrap (pkL l i)=pkL l i:=q00 (by omega) (by omega)
  (repeat' first|simp only [il65c,go_sem,d1,hg,v1]|with_reducible refine wX fun _=>?_|((with_reducible refine wY ?_ ?_); rfl)|fail)
 ·have d1:decide ((i:Int) < (l.length:Nat))=false:=decide_eq_false (by omega)
  have hp:pkL l i=0:=by simp [pkL,hi]
  rw [hp]
  (repeat' first|simp only [il65c,go_sem,d1]|with_reducible refine wX fun _=>?_|((with_reducible refine wY ?_ ?_); rfl)|fail)
theorem q6E (c1 c2:Bool) (t:Tpo) (n:Int):ans Try.prog pol 81 [tpT c1 c2 t,I n]=some (B (decide (nodeP t n))):=by
 refine q02 1 1 il81_eq (Nat.le_of_ble_eq_true rfl) ?_
 by_cases h:0≤n
 ·have e0:decide (0≤n)=true:=decide_eq_true h
  have e1:decide (0≤n∧n < t.nodes)=decide (n < t.nodes):=by simp [h]
  rw [e1]
  (repeat' first|simp only [il81c,go_sem,e0]|with_reducible refine wX fun _=>?_|((with_reducible refine wY ?_ ?_); rfl)|fail)
 ·have e0:decide (0≤n)=false:=decide_eq_false h
  rw [decide_eq_false (fun k=>h k.1)]
  (repeat' first|simp only [il81c,go_sem,e0]|with_reducible refine wX fun _=>?_|((with_reducible refine wY ?_ ?_); rfl)|fail)
theorem q6F (l:Lk) (a b:Int):ans Try.prog pol 52 [lkT l,I a,I b]=some (B (decide (l.a=a∧l.b=b∨l.a=b∧l.b=a))):=by
 refine q02 1 1 il52_eq (Nat.le_of_ble_eq_true rfl) ?_
 by_cases h1:l.a=a
 ·have d1:=decide_eq_true h1
  by_cases h2:l.b=b
  ·have d2:=decide_eq_true h2
   rw [decide_eq_true (show l.a=a∧l.b=b∨l.a=b∧l.b=a from .inl ⟨h1,h2⟩)]
   (repeat' first|simp only [il52c,go_sem,d1,d2]|with_reducible refine wX fun _=>?_|((with_reducible refine wY ?_ ?_); rfl)|fail)
  ·have d2:=decide_eq_false h2
   have e:decide (l.a=a∧l.b=b∨l.a=b∧l.b=a)=decide (l.a=b∧l.b=a):=by simp [h2]
   rw [e]
   by_cases h3:l.a=b
   ·have d3:=decide_eq_true h3
    have e:decide (l.a=b∧l.b=a)=decide (l.b=a):=by simp [h3]
    rw [e]
    (repeat' first|simp only [il52c,go_sem,d1,d2,d3]|with_reducible refine wX fun _=>?_|((with_reducible refine wY ?_ ?_); rfl)|fail)
   ·have d3:=decide_eq_false h3
    rw [decide_eq_false (fun k=>h3 k.1)]
    (repeat' first|simp only [il52c,go_sem,d1,d2,d3]|with_reducible refine wX fun _=>?_|((with_reducible refine wY ?_ ?_); rfl)|fail)
 ·have d1:=decide_eq_false h1
  have e:decide (l.a=a∧l.b=b∨l.a=b∧l.b=a)=decide (l.a=b∧l.b=a):=by simp [h1]
  rw [e]
  by_cases h3:l.a=b
  ·have d3:=decide_eq_true h3
   have e:decide (l.a=b∧l.b=a)=decide (l.b=a):=by simp [h3]
   rw [e]
   (repeat' first|simp only [il52c,go_sem,d1,d3]|with_reducible refine wX fun _=>?_|((with_reducible refine wY ?_ ?_); rfl)|fail)
  ·have d3:=decide_eq_false h3
   rw [decide_eq_false (fun k=>h3 k.1)]
   (repeat' first|simp only [il52c,go_sem,d1,d3]|with_reducible refine wX fun _=>?_|((with_reducible refine wY ?_ ?_); rfl)|fail)
def lkR (t:Tpo) (l:Lk):Bool:=lk1 t l && (lk2 t l && lk4 l)
theorem q6G (c1 c2:Bool) (t:Tpo) (l:Lk) (hs:(t.station.length:Int)=t.nodes):ans Try.prog pol 51 [tpT c1 c2 t,lkT l]=some (B (lkR t l)):=by
 have k1:=q6E c1 c2 t l.a
 have k2:=q6E c1 c2 t l.b
 refine q02 1 1 il51_eq (Nat.le_of_ble_eq_true rfl) ?_
 unfold lkR
 by_cases h1:nodeP t l.a
 ·have e1:=decide_eq_true h1
  by_cases h2:nodeP t l.b
  ·have e2:=decide_eq_true h2
   by_cases h3:l.a=l.b
   ·have d3:=decide_eq_true h3
    have:lk1 t l=false:=by simp [lk1,h3]
    rw [this]
    (repeat' first|simp only [il51c,go_sem,k1,k2,e1,e2,d3]|with_reducible refine wX fun _=>?_|((with_reducible refine wY ?_ ?_); rfl)|fail)
   ·have d3:=decide_eq_false h3
    have hl1:lk1 t l=true:=by unfold lk1; exact decide_eq_true ⟨h1,h2,h3⟩
    obtain ⟨g1,q1⟩:=q1H t hs h1
    obtain ⟨g2,q2⟩:=q1H t hs h2
    rw [hl1]
    unfold lk2
    generalize stA t l.a.toNat=sa at *
    generalize stA t l.b.toNat=sb at *
    have h4:lk4 l=(decide (1≤l.per) && (decide (l.per≤1000) && (decide (0≤l.delay) && decide (l.delay≤10000)))):=by
     unfold lk4
     rw [Bool.eq_iff_iff]
     simp only [decide_eq_true_eq,Bool.and_eq_true,and_assoc]
    rw [h4]
    cases sa with
    | true =>
     cases sb with
     | true=>(repeat' first|simp only [il51c,go_sem,k1,k2,e1,e2,d3,g1,g2,q1,q2]|with_reducible refine wX fun _=>?_|((with_reducible refine wY ?_ ?_); rfl)|fail)
     | false =>
      cases p1:decide (1≤l.per) <;> cases p2:decide (l.per≤1000) <;> cases p3:decide (0≤l.delay) <;> cases p4:decide (l.delay≤10000) <;> (repeat' first|simp only [il51c,go_sem,k1,k2,e1,e2,d3,g1,g2,q1,q2,p1,p2,p3,p4]|with_reducible refine wX fun _=>?_|((with_reducible refine wY ?_ ?_); rfl)|fail)
    | false =>
     cases p1:decide (1≤l.per) <;> cases p2:decide (l.per≤1000) <;> cases p3:decide (0≤l.delay) <;> cases p4:decide (l.delay≤10000) <;> (repeat' first|simp only [il51c,go_sem,k1,k2,e1,e2,d3,g1,g2,q1,q2,p1,p2,p3,p4]|with_reducible refine wX fun _=>?_|((with_reducible refine wY ?_ ?_); rfl)|fail)
  ·have e2:=decide_eq_false h2
   have:lk1 t l=false:=by unfold lk1; exact decide_eq_false (fun h=>h2 h.2.1)
   rw [this]
   (repeat' first|simp only [il51c,go_sem,k1,k2,e1,e2]|with_reducible refine wX fun _=>?_|((with_reducible refine wY ?_ ?_); rfl)|fail)
 ·have e1:=decide_eq_false h1
  have:lk1 t l=false:=by unfold lk1; exact decide_eq_false (fun h=>h1 h.1)
  rw [this]
  (repeat' first|simp only [il51c,go_sem,k1,k2,e1]|with_reducible refine wX fun _=>?_|((with_reducible refine wY ?_ ?_); rfl)|fail)
end Go.Proofs.Ytnjaokhdeaeegaa
namespace Go.Proofs.Ytnjaokhdeaeegaa
open Go Go.Abs
abbrev zB:T:=.agg [I 0,I 0,.sc (.slice none 0 0),.sc (.slice none 0 0),.sc (.slice none 0 0)]
end Go.Proofs.Ytnjaokhdeaeegaa
namespace Go.Proofs.Ytnjaokhdeaeegaa
open Go Go.Abs
structure Bx where
 z:Bool
 c1:Bool
 c2:Bool
 c3:Bool
 b:Br
structure Fl where
 st:Bool
 lk:Bool
 pr:Bool
 dn:Bool
 bs:Bool
structure Nw where
 t:Tpo
 prios:List Int
 down:List Bool
 bs:List Bx
def prA (w:Nw) (n:Nat):Int:=w.prios[n]?.getD 0
def rankL (t:Tpo) (l:List Int):Bool:=decide ((l.length:Int)=t.nodes) && l.all (fun p=>decide (0≤p∧p≤15))
def innP (t:Tpo) (p:Nat):Bool:=!stA t (toP t p).toNat
def trunkL (t:Tpo) (n:Int):List Nat:=(portsL t n).filter (innP t)
def perP (t:Tpo) (p:Nat):Int:=(lnk t (p / 2)).per
def costL (t:Tpo) (n:Int):List Int:=(trunkL t n).map (perP t)
end Go.Proofs.Ytnjaokhdeaeegaa
namespace Go.Proofs.Ytnjaokhdeaeegaa
open Go Go.Abs
def lt6 (x y:Hd):Int:=cmpL [x.a,x.b,x.c,x.d,x.e,x.f] [y.a,y.b,y.c,y.d,y.e,y.f]
end Go.Proofs.Ytnjaokhdeaeegaa
namespace Go.Proofs.Ytnjaokhdeaeegaa
open Go Go.Abs
theorem qh8 {b:Br} (h:okB b=true):okL b:=by
 rw [okB,Bool.and_eq_true,Bool.and_eq_true] at h
 exact of_decide_eq_true h.1.1
theorem qh9 {b:Br} (h:okB b=true) {i:Nat} (hi:i < b.ports.length):okAt b i=true:=by
 rw [okB,Bool.and_eq_true,List.all_eq_true] at h
 exact h.2 i (by simpa using hi)
section
variable (c1 c2 c3:Bool) (b:Br)
def putB (b:Br) (hd:List Hd):Br:=⟨b.p,b.n,b.ports,b.costs,hd⟩
end
end Go.Proofs.Ytnjaokhdeaeegaa
namespace Go.Proofs.Ytnjaokhdeaeegaa
open Go Go.Abs
section
variable (f:Fl) (w:Nw) (n:Nat) (h:okT w.t=true) (hr:rankL w.t w.prios=true) (hd:w.down.length=w.t.links.length) (hn:(n:Int) < w.t.nodes) (hb:n < w.bs.length)
include h hr hd hn hb
end
end Go.Proofs.Ytnjaokhdeaeegaa
namespace Go.Proofs.Ytnjaokhdeaeegaa
open Go Go.Abs
end Go.Proofs.Ytnjaokhdeaeegaa
namespace Go.Proofs.Ytnjaokhdeaeegaa
open Go Go.Abs
end Go.Proofs.Ytnjaokhdeaeegaa
namespace Go.Proofs.Ytnjaokhdeaeegaa
open Go Go.Abs
end Go.Proofs.Ytnjaokhdeaeegaa
namespace Go.Proofs.Ytnjaokhdeaeegaa
open Go Go.Abs
theorem qha {o q i k:Nat} {h:Heap}:iBox false (.ref o q i k) h=some (.val (.ref h.length 1 0 0) (h++[.row 1 [.ref o q i k] 0])):=(fun x=>x) rfl
theorem qhb {cs:List AV} {h:Heap}:iBox false (.agg cs) h=if storableAll cs && !cs.isEmpty then some (.val (.ref h.length 1 0 0) (h++[.row cs.length [.agg cs] 0])) else none:=(fun x=>x) rfl
attribute [go_sem] qha qhb qgK
def stS {σ:Type} (t:Tpo) (nx:σ→Nat→σ) (s:σ) (n:Nat):σ:=if stA t n=true then s else nx s n
section
variable {σ:Type} (hp:σ→Heap) (N:Nat) (hN:∀ s,(hp s).length=N) (nx:σ→Nat→σ) (dd nn o:Nat) (Iv:Nat→σ→Prop) (w:Nw)
 (hiv:∀ n s,n < w.bs.length→Iv n s→Iv (n+1) (stS w.t nx s n))
 (hfz:∀ (s:σ) (h:Heap) (q:Nat),N≤q→mapO (frzObj h (fromB q)) (hp s)=some (hp s)) (hoN:o < N)
include hN hiv hfz hoN
end
end Go.Proofs.Ytnjaokhdeaeegaa
namespace Go.Proofs.Ytnjaokhdeaeegaa
open Go Go.Abs
def lt2 (a b c d:Int):Prop:=a < c∨a=c∧b < d
instance (a b c d:Int):Decidable (lt2 a b c d):=inferInstanceAs (Decidable (_∨_))
structure Tp where
 rp:Int
 rn:Int
 cost:Int
 via:Int
 age:Int
abbrev rkT (h:Hd):T:=.agg [I h.a,I h.b,I h.c,I h.d,I h.e,I h.f]
def ofr (b:Br) (i:Nat):Hd:=⟨(hrd b i).is,(hrd b i).a,(hrd b i).b,(hrd b i).c+cst b i,(hrd b i).d,(hrd b i).e,(hrd b i).f,(hrd b i).g⟩
def leads (b:Br) (i:Nat):Bool:=(hrd b i).is && !decide (1048576 < (ofr b i).c) && decide (lt2 (hrd b i).a (hrd b i).b b.p b.n)
section
variable {σ:Type} (hp:σ→Heap) (N:Nat) (hN:∀ s,(hp s).length=N) (nx:σ→Nat→σ) (dd nn o:Nat) (b:Br)
 (hy:∀ (s:σ) (i:Nat) (X:Heap) (Q:AV→Heap→Prop),i < b.heard.length→leads b i=true→(∀ X',Q (.t (B true)) (hp (nx s i)++X++X'))→oB (inl Try.prog pol (ans Try.prog pol) nn dd (.yl o) [.t (I (i:Nat)),.t (rkT (ofr b i))] (hp s++X)) Q)
 (hfz:∀ (s:σ) (h:Heap) (q:Nat),N≤q→mapO (frzObj h (fromB q)) (hp s)=some (hp s)) (hoN:o < N)
include hN hy hfz hoN
def ldS (b:Br) (nx:σ→Nat→σ) (s:σ) (i:Nat):σ:=if leads b i=true then nx s i else s
end
end Go.Proofs.Ytnjaokhdeaeegaa
namespace Go.Proofs.Ytnjaokhdeaeegaa
open Go Go.Abs
structure Os' where
 t:Tp
 m:Hd
 w:Nat
def tp0 (b:Br):Tp:=⟨b.p,b.n,0,-1,0⟩
def opS (b:Br) (s:Os') (i:Nat):Os':=if s.t.via < 0∨lt6 (ofr b i) s.m < 0 then ⟨⟨(ofr b i).a,(ofr b i).b,(ofr b i).c,i,(ofr b i).g⟩,ofr b i,1⟩ else s
def opF (b:Br):Os':=(List.range b.heard.length).foldl (ldS b (opS b)) ⟨tp0 b,zH,0⟩
end Go.Proofs.Ytnjaokhdeaeegaa
namespace Go.Proofs.Ytnjaokhdeaeegaa
open Go Go.Abs
def clm (b:Br) (t:Tp) (i:Nat):Hd:=⟨true,t.rp,t.rn,t.cost,b.p,b.n,prt b i,t.age⟩
def roleF (b:Br) (t:Tp) (i:Nat):Int:=if (i:Int)=t.via then 1 else if (hrd b i).is=false∨lt6 (clm b t i) (hrd b i) < 0 then 2 else 3
def sentF (b:Br) (t:Tp) (i:Nat):Hd:=if roleF b t i=2 then clm b t i else zH
section
variable (c1 c2 c3:Bool) (b:Br) (t:Tp)
end
end Go.Proofs.Ytnjaokhdeaeegaa
namespace Go.Proofs.Ytnjaokhdeaeegaa
open Go Go.Abs
def sends (b:Br):List Hd:=(List.range b.ports.length).map (sentF b (opF b).t)
theorem q6H {k mr:Nat} {es:List AV} {h:Heap} {p:Nat→Bool} (ha:avoidAll p es=true):frzObj h p (.row k es mr)=some (.row k es mr):=by simp only [frzObj,ha,if_true]
end Go.Proofs.Ytnjaokhdeaeegaa
namespace Go.Proofs.Ytnjaokhdeaeegaa
open Go Go.Abs
theorem qhc {b:Br} (h:okB b=true) {hd:List Hd} (hl:hd.length=b.heard.length) (hx:∀ x∈hd,okH x):okB (putB b hd)=true:=by
 have h0:=qh8 h
 have h1:=h
 rw [okB,Bool.and_eq_true,Bool.and_eq_true] at h1
 have h3:=of_decide_eq_true h1.1.2
 simp only [okL] at h0
 rw [okB,Bool.and_eq_true,Bool.and_eq_true,List.all_eq_true]
 refine ⟨⟨decide_eq_true ?_,decide_eq_true h3⟩,?_⟩
 ·simp only [okL,putB]; omega
 ·intro i hi
  simp only [putB,List.mem_range] at hi
  have h2:=qh9 h hi
  simp only [okAt,decide_eq_true_eq] at h2 ⊢
  refine ⟨h2.1,h2.2.1,h2.2.2.1,?_⟩
  obtain ⟨x,hx'⟩:∃ x,hd[i]? = some x:=⟨hd[i]'(by omega),by simp⟩
  simp only [hrd,putB,hx',Option.getD_some]
  exact hx x (List.mem_of_getElem? hx')
end Go.Proofs.Ytnjaokhdeaeegaa
namespace Go.Proofs.Ytnjaokhdeaeegaa
open Go Go.Abs
structure VB (w:Nw) (n:Nat) (b:Br):Prop where
 ok:okB b=true
 ip:b.p=prA w n
 id:b.n=(n:Nat)
 ports:b.ports=(trunkL w.t n).map ofN
 costs:b.costs=costL w.t n
theorem VB.put {w:Nw} {n:Nat} {b:Br} (h:VB w n b) {hd:List Hd} (hl:hd.length=b.heard.length) (hx:∀ x∈hd,okH x):VB w n (putB b hd):=⟨qhc h.ok hl hx,h.ip,h.id,h.ports,h.costs⟩
end Go.Proofs.Ytnjaokhdeaeegaa
namespace Go.Proofs.Ytnjaokhdeaeegaa
open Go Go.Abs
theorem q3O {t:Tpo} {p:Nat} (hp:p < 2*t.links.length):(t.links.map encK)[p / 2]? = some (lkT (lnk t (p / 2))):=by
 have hi:p / 2 < t.links.length:=by omega
 simp [lnk,hi,encK]
theorem q16 {p L:Nat} (hp:p < 2*L) (hL:L≤1000):IntKind.i64.wrap (Int.tdiv ((p:Nat):Int) 2)=((p / 2:Nat):Int):=by rw [tdiv2]; exact q00 (by omega) (by omega)
theorem q3P (c1 c2:Bool) (t:Tpo) (p:Nat) (hp:p < 2*t.links.length) (hL:t.links.length≤1000):ans Try.prog pol 56 [tpT c1 c2 t,I (p:Nat)]=some (I (frP t p)):=by
 have m:=tmod2 p
 have v:=q16 hp hL
 have g:=q3O hp
 rw [frP]
 generalize lnk t (p / 2)=l at *
 refine q02 1 1 il56_eq (Nat.le_of_ble_eq_true rfl) ?_
 by_cases h:p % 2=0
 ·rw [if_pos h]
  have d:decide (((p % 2:Nat):Int)=1)=false:=decide_eq_false (by omega)
  (repeat' first|simp only [il56c,go_sem,m,v,g,d]|with_reducible refine wX fun _=>?_|((with_reducible refine wY ?_ ?_); rfl)|fail)
 ·rw [if_neg h]
  have d:decide (((p % 2:Nat):Int)=1)=true:=decide_eq_true (by omega)
  (repeat' first|simp only [il56c,go_sem,m,v,g,d]|with_reducible refine wX fun _=>?_|((with_reducible refine wY ?_ ?_); rfl)|fail)
theorem q3Q (c1 c2:Bool) (t:Tpo) (p:Nat) (hp:p < 2*t.links.length) (hL:t.links.length≤1000):ans Try.prog pol 66 [tpT c1 c2 t,I (p:Nat)]=some (I (toP t p)):=by
 have m:=tmod2 p
 have v:=q16 hp hL
 have g:=q3O hp
 rw [toP]
 generalize lnk t (p / 2)=l at *
 refine q02 1 1 il66_eq (Nat.le_of_ble_eq_true rfl) ?_
 by_cases h:p % 2=0
 ·rw [if_pos h]
  have d:decide (((p % 2:Nat):Int)=1)=false:=decide_eq_false (by omega)
  (repeat' first|simp only [il66c,go_sem,m,v,g,d]|with_reducible refine wX fun _=>?_|((with_reducible refine wY ?_ ?_); rfl)|fail)
 ·rw [if_neg h]
  have d:decide (((p % 2:Nat):Int)=1)=true:=decide_eq_true (by omega)
  (repeat' first|simp only [il66c,go_sem,m,v,g,d]|with_reducible refine wX fun _=>?_|((with_reducible refine wY ?_ ?_); rfl)|fail)
def keepS (q:Nat→Bool) (o:List Nat) (p:Nat):List Nat:=if q p=true then o++[p] else o
theorem qhd (q:Nat→Bool):∀ (l:List Nat) (o:List Nat),l.foldl (keepS q) o=o++l.filter q:=by
 intro l
 induction l with
 | nil=>intro o; simp
 | cons p l ih =>
  intro o
  rw [List.foldl_cons,ih,List.filter_cons]
  by_cases h:q p=true
  ·simp [keepS,h]
  ·simp [keepS,h]
theorem qhe {σ:Type} {f:σ→Nat→σ}:∀ (n i:Nat) (s:σ),foldC (ρ:=σ) (fun i (_:Unit) s=>Ctl.go (f s i)) id i (List.replicate n ()) s=(List.range' i n).foldl f s:=by
 intro n
 induction n with
 | zero=>intro i s; rfl
 | succ n ih=>intro i s; rw [List.replicate_succ,q0f (s':=f s i) rfl,ih,List.range'_succ,List.foldl_cons]
theorem qhf (c1 c2:Bool) (t:Tpo) (n:Nat) (hL:t.links.length≤1000):ans Try.prog pol 36 [tpT c1 c2 t,I (n:Nat)]=some (.sl false 1 (((portsL t n).map ofN).map I)):=by
 have v0:IntKind.i64.wrap (2*(t.links.length:Nat))=((2*t.links.length:Nat):Int):=by rw [q00 (by omega) (by omega)]; omega
 refine q02 3000 1 il36_eq (Nat.le_of_ble_eq_true rfl) ?_
 (repeat' first|simp only [il36c,go_sem]|with_reducible refine wX fun _=>?_|((with_reducible refine wY ?_ ?_); rfl)|fail)
 refine q0E (2*t.links.length) (step:=fun p (o:List Nat)=>.go (keepS (fun p=>decide (frP t p=(n:Nat))) o p)) (fin:=id)
  (St:=fun p o e h=>(e 1=.t (I (n:Nat))∧e 2=.t (.ip (tpC c1 c2 t))∧e 5=.ms 0 o.length 0 o.length 1 false∧e 6=.t (I (p:Nat)))∧o.length≤p∧h=[rowG 1 I (o.map ofN)])
  (Ex:=fun o x e h=>e 5=.ms 0 o.length 0 o.length 1 false∧x=.exit 0∧h=[rowG 1 I (o.map ofN)]) (s:=[]) (by omega) ?_ ?_ (by omega) ?_ ?_
 ·intro p o e h Y R hp hlt hw ⟨hs,hl,hh⟩ hk
  subst hh
  simp only [q05] at hk
  have k1:=q3P c1 c2 t p hp hL
  have hroom:(o.length+1)*8≤roomB:=q0I (by omega) (by omega)
  have hlm:(o.map ofN).length=o.length:=List.length_map ..
  have his:rowIs 1 o.length (some (rowG 1 I (o.map ofN))):=by have:=q26 (k:=1) (enc:=I) (l:=o.map ofN); rwa [hlm] at this
  by_cases q:frP t p=(n:Nat)
  ·have d:decide (frP t p=(n:Nat))=true:=decide_eq_true q
   simp only [keepS,d,if_true] at hk
   (repeat' first|simp only [il36l0_go,il36l0b,go_sem,hs,hlt,hw,v0,k1,d,hroom,his,q0V,q0W]|with_reducible refine wX fun _=>?_|((with_reducible refine wY ?_ ?_); rfl)|fail)
   all_goals refine hk _ _ ⟨?_,by simp; omega,?_⟩
   ·simp only [go_sem,hs,hw,List.length_append]
   ·simp [rowG]
  ·have d:decide (frP t p=(n:Nat))=false:=decide_eq_false q
   simp only [keepS,d,Bool.false_eq_true,if_false] at hk
   (repeat' first|simp only [il36l0_go,il36l0b,go_sem,hs,hlt,hw,v0,k1,d]|with_reducible refine wX fun _=>?_|((with_reducible refine wY ?_ ?_); rfl)|fail)
   all_goals (refine hk _ _ ⟨?_,by omega,rfl⟩; simp only [go_sem,hs,hw])
 ·intro o e h Y R hlt ⟨hs,hl,hh⟩ hk
  subst hh
  (repeat' first|simp only [il36l0_go,il36l0b,go_sem,hs,hlt,v0]|with_reducible refine wX fun _=>?_|((with_reducible refine wY ?_ ?_); rfl)|fail)
  all_goals (refine hk _ _ _ ⟨?_,rfl,rfl⟩; simp only [go_sem,hs,id])
 ·refine ⟨?_,by simp,rfl⟩
  simp only [go_sem]
 ·intro x e h ⟨h1,h2,h3⟩
  rw [qhe,qhd,List.nil_append,← List.range_eq_range',show List.filter (fun p=>decide (frP t p=(n:Nat))) (List.range (2*t.links.length))=portsL t n from rfl] at h1 h3
  generalize portsL t n=o at *
  subst h2 h3
  (repeat' first|simp only [il36c,q6t,go_sem,h1]|with_reducible refine wX fun _=>?_|((with_reducible refine wY ?_ ?_); rfl)|fail)
end Go.Proofs.Ytnjaokhdeaeegaa
namespace Go.Proofs.Ytnjaokhdeaeegaa
open Go Go.Abs
theorem tkdr {L:List AV} {n:Nat} {x:AV} (h:n < L.length):List.take n L++[x]++List.drop (n+1) L=L.set n x:=by
 rw [List.set_eq_take_append_cons_drop,if_pos h]; simp
def srC (c1 c2:Bool) (t:Tpo) (F G:List Int):List T:=tpC c1 c2 t++(F.map I++G.map I)
section
variable {c1 c2:Bool} {t:Tpo} {F G:List Int}
theorem q0F (hF:F.length=48) (hG:G.length=48):(srC c1 c2 t F G).length=99:=by simp [srC,hF,hG]
theorem q2J {i:Nat} {n:Int} (h:F[i]? = some n):(srC c1 c2 t F G)[3+i]? = some (I n):=by
 have hi:=(List.getElem?_eq_some_iff.1 h).1
 have e:3+i=(tpC c1 c2 t).length+i:=rfl
 rw [srC,e,List.getElem?_append_right (Nat.le_add_right _ _),Nat.add_sub_cancel_left,List.getElem?_append_left (by simpa using hi),List.getElem?_map,h]; rfl
theorem q1t (hF:F.length=48) {i:Nat} {n:Int} (h:G[i]? = some n):(srC c1 c2 t F G)[51+i]? = some (I n):=by
 have e:51+i=(tpC c1 c2 t).length+(48+i):=by show 51+i=3+(48+i); omega
 rw [srC,e,List.getElem?_append_right (Nat.le_add_right _ _),Nat.add_sub_cancel_left,List.getElem?_append_right (by simp [hF]),List.length_map,hF,Nat.add_sub_cancel_left,List.getElem?_map,h]; rfl
theorem qhg {i:Nat} {n:Int} (hi:i < F.length):((srC c1 c2 t F G).map AV.t).set (3+i) (.t (I n))=(srC c1 c2 t (F.set i n) G).map .t:=by
 have e:3+i=((tpC c1 c2 t).map AV.t).length+i:=rfl
 simp only [srC,List.map_append]
 rw [e,List.set_append,if_neg (by omega),Nat.add_sub_cancel_left,List.set_append,if_pos (by simpa using hi),map_set (enc:=I)]
theorem qhh (hF:F.length=48) {i:Nat} {n:Int}:((srC c1 c2 t F G).map AV.t).set (51+i) (.t (I n))=(srC c1 c2 t F (G.set i n)).map .t:=by
 have e:51+i=((tpC c1 c2 t).map AV.t).length+(48+i):=by show 51+i=3+(48+i); omega
 simp only [srC,List.map_append]
 rw [e,List.set_append,if_neg (by omega),Nat.add_sub_cancel_left,List.set_append,if_neg (by simp [hF])]
 simp only [List.length_map,hF,Nat.add_sub_cancel_left]
 rw [map_set (enc:=I)]
theorem q0b {α:Type} {l:List α} {i:Nat}:(l.drop i).head? = l[i]?:=by rw [List.head?_drop]
theorem srC_0:(srC c1 c2 t F G)[0]? = some (I t.nodes):=rfl
theorem q3R:(srC c1 c2 t F G).head? = some (I t.nodes):=rfl
theorem srC_1:(srC c1 c2 t F G)[1]? = some (.sl c1 1 (t.station.map B)):=rfl
theorem srC_2:(srC c1 c2 t F G)[2]? = some (.sl c2 4 (t.links.map encK)):=rfl
end
theorem qhi:∀ {a b:List AV},storableAll (a++b)=(storableAll a && storableAll b):=by
 intro a b
 induction a with
 | nil=>simp [storableAll]
 | cons x a ih=>simp only [List.cons_append,storableAll,ih,Bool.and_assoc]
theorem qhj:∀ l:List Int,storableAll ((l.map I).map AV.t)=true:=by
 intro l
 induction l with
 | nil=>rfl
 | cons x l ih=>exact ih
theorem q0C {c1 c2:Bool} {t:Tpo} {F G:List Int}:storableAll ((srC c1 c2 t F G).map AV.t)=true:=by
 simp only [srC,List.map_append,qhi,qhj,Bool.and_true]
 rfl
theorem q0X:zS99.length=99:=rfl
theorem q17:storableAll (zS99.map AV.t)=true:=rfl
def endsL (t:Tpo) (f:Nat→Int):List Int:=(List.range 48).map (fun p=>if p < 2*t.links.length then f p else 0)
abbrev srT (c1 c2:Bool) (t:Tpo):T:=.agg (srC c1 c2 t (endsL t (frP t)) (endsL t (toP t)))
theorem q0a (t:Tpo) (f:Nat→Int):(endsL t f).length=48:=by simp [endsL]
theorem q0Q {t:Tpo} {f:Nat→Int} (h:t.links.length≤24) {p:Nat} (hp:p < 2*t.links.length):(endsL t f)[p]? = some (f p):=by
 rw [endsL,List.getElem?_map,List.getElem?_range (by omega),Option.map_some,if_pos hp]
theorem qhk (c1 c2:Bool) (t:Tpo) (p:Nat) (h:okT t=true) (hp:p < 2*t.links.length):ans Try.prog pol 79 [tpT c1 c2 t,I (p:Nat)]=some (.tup [I (frP t p),I 0]):=by
 obtain ⟨z1,z2,z3⟩:=q0d h
 have k1:=q3N (c1:=c1) (c2:=c2) h
 have d1:decide (((p:Nat):Int) < 0)=false:=decide_eq_false (by omega)
 have d2:decide ((2*t.links.length:Nat)≤((p:Nat):Int))=false:=decide_eq_false (by omega)
 have v1:IntKind.i64.wrap (2*(t.links.length:Nat))=((2*t.links.length:Nat):Int):=by rw [q00 (by omega) (by omega)]; omega
 have v2:IntKind.i64.wrap (Int.tdiv ((p:Nat):Int) 2)=((p / 2:Nat):Int):=by rw [tdiv2]; exact q00 (by omega) (by omega)
 have hg:(t.links.map encK)[p / 2]? = some (lkT (lnk t (p / 2))):=by
  have hi:p / 2 < t.links.length:=by omega
  simp [lnk,hi,encK]
 have k2:=qh3 (lnk t (p / 2)) p
 rw [frP]
 generalize lnk t (p / 2)=l at *
 generalize (if p % 2=0 then l.a else l.b)=r at *
 have k3:ans Try.prog pol 91 [tpT c1 c2 t,I (p:Nat),.fn (.func 92) [] []]=some (.tup [I r,I 0]):=by
  refine q02 1 1 il91_eq (Nat.le_of_ble_eq_true rfl) ?_
  (repeat' first|simp only [il91c,go_sem,k1,v1,d1,d2,v2,hg,q0r,k2]|with_reducible refine wX fun _=>?_|((with_reducible refine wY ?_ ?_); rfl)|fail)
 refine q02 1 1 il79_eq (Nat.le_of_ble_eq_true rfl) ?_
 (repeat' first|simp only [il79c,go_sem,k3]|with_reducible refine wX fun _=>?_|((with_reducible refine wY ?_ ?_); rfl)|fail)
theorem q1I (c1 c2:Bool) (t:Tpo) (F G:List Int) (h:okT t=true):ans Try.prog pol 70 [.agg (srC c1 c2 t F G)]=some (I ((2*t.links.length:Nat):Int)):=by
 obtain ⟨z1,z2,z3⟩:=q0d h
 have v1:IntKind.i64.wrap (2*(t.links.length:Nat))=((2*t.links.length:Nat):Int):=by rw [q00 (by omega) (by omega)]; omega
 refine q02 1 1 il70_eq (Nat.le_of_ble_eq_true rfl) ?_
 (repeat' first|simp only [il70c,go_sem,q0C,v1,q0b,srC_2]|with_reducible refine wX fun _=>?_|((with_reducible refine wY ?_ ?_); rfl)|fail)
end Go.Proofs.Ytnjaokhdeaeegaa
namespace Go.Proofs.Ytnjaokhdeaeegaa
open Go Go.Abs
def endF (f:Nat→Int) (p:Nat):List Int:=(List.range 48).map (fun q=>if q < p then f q else 0)
theorem q27 (f:Nat→Int) (p:Nat):(endF f p).length=48:=by simp [endF]
theorem q6I (f:Nat→Int):endF f 0=List.replicate 48 0:=by
 refine List.eq_replicate_iff.2 ⟨q27 f 0,fun b hb=>?_⟩
 obtain ⟨q,_,e⟩:=List.mem_map.1 hb
 rw [if_neg (by omega)] at e
 exact e.symm
theorem qhl (f:Nat→Int) {p:Nat}:(endF f p).set p (f p)=endF f (p+1):=by
 refine List.ext_getElem (by simp [endF]) (fun i h1 h2=>?_)
 rw [List.getElem_set]
 simp only [endF,List.getElem_map,List.getElem_range]
 by_cases e:p=i
 ·subst e; simp
 ·rw [if_neg e]
  have:(i < p+1)=(i < p):=by simp; omega
  simp only [this]
theorem q1J {cs:List T} {n:Nat} (h:cs.length=n):List.take n (cs.map AV.t)=cs.map AV.t:=List.take_of_length_le (by simp [h])
def srTl (F G:List Int):List T:=F.map I++G.map I
theorem qhm {c1 c2:Bool} {t:Tpo} {F G:List Int}:I t.nodes::T.sl c1 1 (t.station.map B)::T.sl c2 4 (t.links.map encK)::srTl F G=srC c1 c2 t F G:=rfl
theorem qhn (f g:Nat→Int):List.drop 3 (zS99.map AV.t)=(srTl (endF f 0) (endF g 0)).map .t:=by
 rw [srTl,q6I,q6I]; rfl
theorem q6J (c1 c2:Bool) (t:Tpo) (h:okT t=true):ans Try.prog pol 48 [tpT c1 c2 t]=some (.tup [srT c1 c2 t,I 0]):=by
 obtain ⟨z1,z2,z3⟩:=q0d h
 have k1:=q3N (c1:=c1) (c2:=c2) h
 have k2:=fun F G=>q1I c1 c2 t F G h
 have hz:=qhn (frP t) (toP t)
 have hdr:List.drop 99 (zS99.map AV.t)=[]:=rfl
 show ans Try.prog pol 48 [tpT c1 c2 t]=some (.tup [.agg (srC c1 c2 t (endF (frP t) (2*t.links.length)) (endF (toP t) (2*t.links.length))),I 0])
 have hl:=fun i j=>q0F (c1:=c1) (c2:=c2) (t:=t) (q27 (frP t) i) (q27 (toP t) j)
 have ht:=fun i j=>q1J (hl i j)
 have hs:=fun i j=>q0C (c1:=c1) (c2:=c2) (t:=t) (F:=endF (frP t) i) (G:=endF (toP t) j)
 obtain ⟨nn,hn⟩:∃ nn,1000 < nn:=⟨1001,by omega⟩
 refine q02 nn 1 il48_eq (Nat.le_of_ble_eq_true rfl) ?_
 (repeat' first|simp only [il48c,go_sem,k1,k2,hz,qhm,q0X,q17,hl,ht,hs,hdr]|with_reducible refine wX fun _=>?_|((with_reducible refine wY ?_ ?_); rfl)|fail)
 refine q0E (2*t.links.length) (step:=fun p (_:Unit)=>.go ()) (fin:=id)
  (St:=fun p _ e h=>(e 1=.t (.ip (tpC c1 c2 t))∧e 2=.ref 0 1 0 0∧e 5=.ref 1 1 0 0∧e 16=.t (I ((2*t.links.length:Nat):Int))∧e 17=.t (I (p:Nat)))∧h=[.row 99 [.t (.agg zS99)] 0,.row 99 [.t (.agg (srC c1 c2 t (endF (frP t) p) (endF (toP t) p)))] 1])
  (Ex:=fun _ x e h=>(e 2=.ref 0 1 0 0∧e 5=.ref 1 1 0 0)∧x=.exit 0∧h=[.row 99 [.t (.agg zS99)] 0,.row 99 [.t (.agg (srC c1 c2 t (endF (frP t) (2*t.links.length)) (endF (toP t) (2*t.links.length))))] 1]) (s:=()) (by omega) ?_ ?_ (by omega) ?_ ?_
 ·intro p _ e h' Y R hp hlt hw ⟨hs',hh⟩ hk
  subst hh
  simp only [q05] at hk
  have kF:=qhk c1 c2 t p h hp
  have kT:=qh5 c1 c2 t p h hp
  have h48:p < 48:=by omega
  have t1:=@tkdr ((srC c1 c2 t (endF (frP t) p) (endF (toP t) p)).map AV.t) (3+p) (.t (I (frP t p))) (by rw [List.length_map,hl]; omega)
  have t2:=@tkdr ((srC c1 c2 t (endF (frP t) (p+1)) (endF (toP t) p)).map AV.t) (51+p) (.t (I (toP t p))) (by rw [List.length_map,hl]; omega)
  have s1:=qhg (c1:=c1) (c2:=c2) (t:=t) (F:=endF (frP t) p) (G:=endF (toP t) p) (i:=p) (n:=frP t p) (by rw [q27]; omega)
  have s2:=qhh (c1:=c1) (c2:=c2) (t:=t) (F:=endF (frP t) (p+1)) (G:=endF (toP t) p) (q27 _ _) (i:=p) (n:=toP t p)
  rw [qhl] at s1 s2
  have b1:3+p+1≤99:=by omega
  have b2:51+p+1≤99:=by omega
  generalize frP t p=A at *
  generalize toP t p=C at *
  (repeat' first|simp only [il48l0_go,il48l0b,go_sem,hs',hlt,hw,kF,kT,h48,t1,t2,s1,s2,b1,b2,Nat.mul_one]|with_reducible refine wX fun _=>?_|((with_reducible refine wY ?_ ?_); rfl)|fail)
  all_goals (refine hk _ _ ⟨?_,?_⟩ <;> simp only [go_sem,hs',hw])
 ·intro _ e h' Y R hlt ⟨hs',hh⟩ hk
  subst hh
  (repeat' first|simp only [il48l0_go,il48l0b,go_sem,hs',hlt]|with_reducible refine wX fun _=>?_|((with_reducible refine wY ?_ ?_); rfl)|fail)
  all_goals (refine hk _ _ _ ⟨?_,rfl,rfl⟩; simp only [go_sem,hs'])
 ·refine ⟨?_,rfl⟩
  simp only [go_sem]
 ·intro x e h' ⟨h1,h2,h3⟩
  subst h2 h3
  (repeat' first|simp only [il48c,go_sem,h1,hl,ht,hs,hdr,q0X]|with_reducible refine wX fun _=>?_|((with_reducible refine wY ?_ ?_); rfl)|fail)
end Go.Proofs.Ytnjaokhdeaeegaa
namespace Go.Proofs.Ytnjaokhdeaeegaa
open Go Go.Abs
def ptL (r:List Nat):List T:=(r.map ofN).map I
theorem q0x (r:List Nat):(ptL r).length=r.length:=by simp [ptL]
theorem q0Y {r:List Nat} {i p:Nat} (h:r[i]? = some p):(ptL r)[i]? = some (I ((p:Nat):Int)):=by simp [ptL,h,ofN]
def ptP (t:Tpo) (r:List Nat):Prop:=∀ p∈r,p < 2*t.links.length
theorem qho (t:Tpo):∀ (r:List Nat) (s:Int),r.foldl (fun s p=>s+dlP t p) s+(r.length:Nat)=s+gw (grT t) r:=by
 intro r
 induction r with
 | nil=>intro s; simp [gw]
 | cons p r ih =>
  intro s
  have:=ih (s+dlP t p)
  rw [List.foldl_cons,List.length_cons]
  have e:gw (grT t) (p::r)=1+dlP t p+gw (grT t) r:=rfl
  rw [e]
  omega
theorem q3S (c1 c2 c:Bool) (t:Tpo) (h:okT t=true) (r:List Nat) (hr:ptP t r) (hl:r.length≤1000):ans Try.prog pol 50 [srT c1 c2 t,.sl c 1 (ptL r)]=some (I (gw (grT t) r)):=by
 obtain ⟨z1,z2,z3⟩:=q0d h
 have hsr:=q0C (c1:=c1) (c2:=c2) (t:=t) (F:=endsL t (frP t)) (G:=endsL t (toP t))
 have hl0:=q0x r
 have hfin:gw (grT t) r=r.foldl (fun s p=>s+dlP t p) (r.length:Nat):=by have:=qho t r (r.length:Nat); omega
 rw [hfin]
 clear hfin
 obtain ⟨nn,hn⟩:∃ nn,1000 < nn:=⟨1001,by omega⟩
 refine q02 nn 1 il50_eq (Nat.le_of_ble_eq_true rfl) ?_
 (repeat' first|simp only [il50c,go_sem,hsr,hl0]|with_reducible refine wX fun _=>?_|((with_reducible refine wY ?_ ?_); rfl)|fail)
 refine q0h r (fun p=>I (ofN p)) (step:=fun _ p (s:Int)=>.go (s+dlP t p)) (fin:=id)
  (St:=fun i s e h'=>(e 2=.t (.ip (srC c1 c2 t (endsL t (frP t)) (endsL t (toP t))))∧e 5=.t (I s)∧e 10=.t (.sl c 1 (ptL r))∧e 11=.t (I ((r.length:Nat):Int))∧e 12=.t (I (i:Nat)))∧(0≤s∧s≤1000+i*10000)∧h'=[])
  (Ex:=fun s x e h'=>e 5=.t (I s)∧x=.exit 0∧h'=[]) (s:=(r.length:Nat)) (by omega) ?_ ?_ (by omega) ?_ ?_
 ·intro i p s e h' Y R hm hi hx _ hlt hw ⟨hs,hb,hh⟩ hk
  subst hh
  simp only [q05] at hk
  have hp:=hr p hm
  have gp:=q0Y hx
  have gl:(t.links.map encK)[p / 2]? = some (lkT (lnk t (p / 2))):=q3O hp
  have v:=q16 hp (show t.links.length≤1000 by omega)
  have hd:=dl_ok h p
  have v1:IntKind.i64.wrap (s+dlP t p)=s+dlP t p:=q00 (by omega) (by omega)
  have hs':0≤s+dlP t p∧s+dlP t p≤1000+((i+1:Nat):Int)*10000:=by omega
  unfold dlP at *
  generalize lnk t (p / 2)=l at *
  (repeat' first|simp only [il50l0_go,il50l0b,go_sem,hs,hlt,hw,gp,gl,v,v1,hl0,q0b,srC_2]|with_reducible refine wX fun _=>?_|((with_reducible refine wY ?_ ?_); rfl)|fail)
  all_goals (refine hk _ _ ⟨?_,hs',rfl⟩; simp only [go_sem,hs,hw])
 ·intro s e h' Y R hlt ⟨hs,hb,hh⟩ hk
  subst hh
  (repeat' first|simp only [il50l0_go,il50l0b,go_sem,hs,hlt]|with_reducible refine wX fun _=>?_|((with_reducible refine wY ?_ ?_); rfl)|fail)
  all_goals (refine hk _ _ _ ⟨?_,rfl,rfl⟩; simp only [go_sem,hs,id])
 ·refine ⟨?_,by omega,rfl⟩
  simp only [go_sem]
 ·intro x e h' ⟨h1,h2,h3⟩
  rw [q6e,id] at h1
  generalize r.foldl (fun s p=>s+dlP t p) (r.length:Nat)=v at *
  subst h2 h3
  (repeat' first|simp only [il50c,go_sem,h1]|with_reducible refine wX fun _=>?_|((with_reducible refine wY ?_ ?_); rfl)|fail)
def lex3:List Nat→List Nat→Int
 | [],[]=>0
 | [],_::_=>-1
 | _::_,[]=>1
 | x::a,y::b=>if cmp3 (ofN x) (ofN y)≠0 then cmp3 (ofN x) (ofN y) else lex3 a b
theorem qhp:∀ {a b:List Nat},lex3 a b < 0↔lexB a b=true:=by
 intro a
 induction a with
 | nil=>intro b; cases b <;> simp [lex3,lexB]
 | cons x a ih =>
  intro b
  cases b with
  | nil=>simp [lex3,lexB]
  | cons y b =>
   simp only [lex3,lexB,Bool.or_eq_true,Bool.and_eq_true,decide_eq_true_eq,cmp3,ofN]
   rw [← ih]
   by_cases h1:x < y
   ·rw [if_pos (show ((x:Nat):Int) < (y:Nat) by omega)]; simp [h1]
   ·rw [if_neg (show ¬ ((x:Nat):Int) < (y:Nat) by omega)]
    by_cases h2:y < x
    ·rw [if_pos (show ((y:Nat):Int) < (x:Nat) by omega)]; simp; omega
    ·rw [if_neg (show ¬ ((y:Nat):Int) < (x:Nat) by omega)]
     have:x=y:=by omega
     subst this; simp
def lexC (b:List Nat) (i x:Nat) (_:Unit):Ctl Unit Int:=if b.length≤i then .out 1 else if cmp3 (ofN x) (ofN (b[i]?.getD 0))≠0 then .out (cmp3 (ofN x) (ofN (b[i]?.getD 0))) else .go ()
theorem qhq (b:List Nat) (n:Nat):∀ (a:List Nat) (i:Nat) (u:Unit),i≤b.length→n=i+a.length→foldC (lexC b) (fun _=>if n < b.length then (-1:Int) else 0) i a u=lex3 a (b.drop i):=by
 intro a
 induction a with
 | nil =>
  intro i u hi hn
  simp only [foldC,List.length_nil,Nat.add_zero] at hn ⊢
  subst hn
  by_cases h1:n < b.length
  ·rw [if_pos h1,List.drop_eq_getElem_cons h1]; rfl
  ·rw [if_neg h1,List.drop_eq_nil_of_le (by omega)]; rfl
 | cons x a ih =>
  intro i u hi hn
  by_cases h1:i < b.length
  ·rw [List.drop_eq_getElem_cons h1]
   have hg:b[i]?.getD 0=b[i]:=by rw [List.getElem?_eq_getElem h1]; rfl
   by_cases h2:cmp3 (ofN x) (ofN b[i])≠0
   ·rw [q0q (r:=cmp3 (ofN x) (ofN b[i])) (by rw [lexC,hg,if_neg (by omega),if_pos h2])]
    rw [lex3,if_pos h2]
   ·rw [q0f (s':=()) (by rw [lexC,hg,if_neg (by omega),if_neg h2]),ih (i+1) () h1 (by rw [hn,List.length_cons]; omega)]
    rw [lex3,if_neg h2]
  ·rw [q0q (r:=1) (by rw [lexC,if_pos (by omega)]),List.drop_eq_nil_of_le (by omega)]; rfl
theorem qhr (c c':Bool) (a b:List Nat) (hl:a.length≤1000):ans Try.prog pol 32 [.sl c 1 (ptL a),.sl c' 1 (ptL b)]=some (I (lex3 a b)):=by
 have hfin:=qhq b a.length a 0 () (Nat.zero_le _) (by omega)
 rw [List.drop_zero] at hfin
 rw [← hfin]
 clear hfin
 have l1:=q0x a
 have l2:=q0x b
 obtain ⟨nn,hn⟩:∃ nn,1000 < nn:=⟨1001,by omega⟩
 refine q02 nn 1 il32_eq (Nat.le_of_ble_eq_true rfl) ?_
 (repeat' first|simp only [il32c,go_sem,l1]|with_reducible refine wX fun _=>?_|((with_reducible refine wY ?_ ?_); rfl)|fail)
 refine q0h a (fun p=>I (ofN p)) (step:=lexC b) (fin:=fun _=>if a.length < b.length then (-1:Int) else 0)
  (St:=fun i _ e h'=>(e 0=.t (.sl c 1 (ptL a))∧e 1=.t (.sl c' 1 (ptL b))∧e 9=.t (.sl c 1 (ptL a))∧e 10=.t (I ((a.length:Nat):Int))∧e 11=.t (I (i:Nat)))∧h'=[])
  (Ex:=fun r x e h'=>h'=[]∧(x=.exit 0∧r=(if a.length < b.length then (-1:Int) else 0)∧e 0=.t (.sl c 1 (ptL a))∧e 1=.t (.sl c' 1 (ptL b))∨x=.ret∧e 4=.t (I r))) (s:=()) (by omega) ?_ ?_ (by omega) ?_ ?_
 ·intro i x _ e h' Y R hm hi hx _ hlt hw ⟨hs,hh⟩ hk
  subst hh
  have gx:=q0Y hx
  unfold lexC at hk
  by_cases h1:b.length≤i
  ·rw [if_pos h1,q09] at hk
   have d1:decide (((b.length:Nat):Int)≤(i:Nat))=true:=decide_eq_true (by omega)
   (repeat' first|simp only [il32l0_go,il32l0b,go_sem,hs,hlt,hw,gx,l1,l2,d1]|with_reducible refine wX fun _=>?_|((with_reducible refine wY ?_ ?_); rfl)|fail)
   all_goals (refine hk _ _ _ ⟨rfl,.inr ⟨rfl,?_⟩⟩; simp only [go_sem])
  ·rw [if_neg h1] at hk
   have d1:decide (((b.length:Nat):Int)≤(i:Nat))=false:=decide_eq_false (by omega)
   have hib:i < b.length:=by omega
   have gy:(ptL b)[i]? = some (I (((b[i]?.getD 0):Nat):Int)):=q0Y (by rw [List.getElem?_eq_getElem hib]; rfl)
   generalize b[i]?.getD 0=y at *
   have kc:=q6v (ofN x) (ofN y)
   simp only [ofN] at kc
   by_cases h2:cmp3 (ofN x) (ofN y)≠0
   ·rw [if_pos h2,q09] at hk
    simp only [ofN] at h2 hk
    have d2:=decide_eq_false h2
    generalize cmp3 ((x:Nat):Int) ((y:Nat):Int)=v at *
    have d2:decide (v=0)=false:=decide_eq_false h2
    (repeat' first|simp only [il32l0_go,il32l0b,go_sem,hs,hlt,hw,gx,gy,kc,l1,l2,d1,d2,hib]|with_reducible refine wX fun _=>?_|((with_reducible refine wY ?_ ?_); rfl)|fail)
    all_goals (refine hk _ _ _ ⟨rfl,.inr ⟨rfl,?_⟩⟩; simp only [go_sem])
   ·rw [if_neg h2,q05] at hk
    simp only [ofN] at h2
    have h3:cmp3 ((x:Nat):Int) ((y:Nat):Int)=0:=Classical.not_not.1 h2
    rw [h3] at kc
    (repeat' first|simp only [il32l0_go,il32l0b,go_sem,hs,hlt,hw,gx,gy,kc,l1,l2,d1,hib]|with_reducible refine wX fun _=>?_|((with_reducible refine wY ?_ ?_); rfl)|fail)
    all_goals (refine hk _ _ ⟨?_,rfl⟩; simp only [go_sem,hs,hw])
 ·intro _ e h' Y R hlt ⟨hs,hh⟩ hk
  subst hh
  (repeat' first|simp only [il32l0_go,il32l0b,go_sem,hs,hlt]|with_reducible refine wX fun _=>?_|((with_reducible refine wY ?_ ?_); rfl)|fail)
  all_goals (refine hk _ _ _ ⟨rfl,.inl ⟨rfl,rfl,?_⟩⟩; simp only [go_sem,hs])
 ·refine ⟨?_,rfl⟩
  simp only [go_sem]
 ·intro x e h' ⟨hh,hx⟩
  subst hh
  generalize foldC (lexC b) (fun _=>if a.length < b.length then (-1:Int) else 0) 0 a ()=v at *
  rcases hx with ⟨rfl,h1,h2,h3⟩|⟨rfl,h1⟩
  ·rw [h1]
   by_cases h4:a.length < b.length
   ·have d:decide (((a.length:Nat):Int) < (b.length:Nat))=true:=decide_eq_true (by omega)
    rw [if_pos h4]
    (repeat' first|simp only [il32c,go_sem,h2,h3,l1,l2,d]|with_reducible refine wX fun _=>?_|((with_reducible refine wY ?_ ?_); rfl)|fail)
   ·have d:decide (((a.length:Nat):Int) < (b.length:Nat))=false:=decide_eq_false (by omega)
    rw [if_neg h4]
    (repeat' first|simp only [il32c,go_sem,h2,h3,l1,l2,d]|with_reducible refine wX fun _=>?_|((with_reducible refine wY ?_ ?_); rfl)|fail)
  ·(repeat' first|simp only [il32c,go_sem,h1]|with_reducible refine wX fun _=>?_|((with_reducible refine wY ?_ ?_); rfl)|fail)
theorem qhs (x y:Int):ans Try.prog pol 76 [.sl true 1 [I x,I y]]=some (I (if x≠0 then x else y)):=by
 by_cases h:x=0
 ·subst h
  rw [if_neg (by simp)]
  by_cases h2:y=0
  ·subst h2
   refine q02 10 1 il76_eq (Nat.le_of_ble_eq_true rfl) ?_
   (repeat' first|simp only [il76c,go_sem]|with_reducible refine wX fun _=>?_|((with_reducible refine wY ?_ ?_); rfl)|((with_reducible refine q1d (body:=wc _ _ _ _ _ _ il76l0) ?_ ?_); exact Nat.le_of_ble_eq_true rfl; simp only [il76l0_go,il76l0b])|fail)
  ·have d:=decide_eq_false h2
   refine q02 10 1 il76_eq (Nat.le_of_ble_eq_true rfl) ?_
   (repeat' first|simp only [il76c,go_sem,d]|with_reducible refine wX fun _=>?_|((with_reducible refine wY ?_ ?_); rfl)|((with_reducible refine q1d (body:=wc _ _ _ _ _ _ il76l0) ?_ ?_); exact Nat.le_of_ble_eq_true rfl; simp only [il76l0_go,il76l0b])|fail)
 ·rw [if_pos h]
  have d:=decide_eq_false h
  refine q02 10 1 il76_eq (Nat.le_of_ble_eq_true rfl) ?_
  (repeat' first|simp only [il76c,go_sem,d]|with_reducible refine wX fun _=>?_|((with_reducible refine wY ?_ ?_); rfl)|((with_reducible refine q1d (body:=wc _ _ _ _ _ _ il76l0) ?_ ?_); exact Nat.le_of_ble_eq_true rfl; simp only [il76l0_go,il76l0b])|fail)
def cmpR (t:Tpo) (a b:List Nat):Int:=if cmp3 (gw (grT t) a) (gw (grT t) b)≠0 then cmp3 (gw (grT t) a) (gw (grT t) b) else lex3 a b
theorem qht {t:Tpo} {a b:List Nat}:cmpR t a b < 0↔befB (grT t) a b=true:=by
 rw [q2y,← qhp]
 unfold cmpR cmp3
 split <;> split <;> simp_all <;> omega
theorem q6K (c1 c2 c c':Bool) (t:Tpo) (h:okT t=true) (a b:List Nat) (ha:ptP t a) (hb:ptP t b) (hla:a.length≤1000) (hlb:b.length≤1000) :
  ans Try.prog pol 42 [srT c1 c2 t,.sl c 1 (ptL a),.sl c' 1 (ptL b)]=some (I (cmpR t a b)):=by
 have k1:=q3S c1 c2 c t h a ha hla
 have k2:=q3S c1 c2 c' t h b hb hlb
 have k3:=q6v (gw (grT t) a) (gw (grT t) b)
 have k4:=qhr c c' a b hla
 have k5:=qhs (cmp3 (gw (grT t) a) (gw (grT t) b)) (lex3 a b)
 have hsr:=q0C (c1:=c1) (c2:=c2) (t:=t) (F:=endsL t (frP t)) (G:=endsL t (toP t))
 have hl:=q0F (c1:=c1) (c2:=c2) (t:=t) (q0a t (frP t)) (q0a t (toP t))
 have ht:List.take 99 (srC c1 c2 t (endsL t (frP t)) (endsL t (toP t)))=srC c1 c2 t (endsL t (frP t)) (endsL t (toP t)):=List.take_of_length_le (by omega)
 have e:cmpR t a b=if cmp3 (gw (grT t) a) (gw (grT t) b)≠0 then cmp3 (gw (grT t) a) (gw (grT t) b) else lex3 a b:=rfl
 rw [← e] at k5
 refine q02 1 1 il42_eq (Nat.le_of_ble_eq_true rfl) ?_
 (repeat' first|simp only [il42c,go_sem,k1,k2,k3,k4,k5,hsr,hl,ht]|with_reducible refine wX fun _=>?_|((with_reducible refine wY ?_ ?_); rfl)|fail)
end Go.Proofs.Ytnjaokhdeaeegaa
namespace Go.Proofs.Ytnjaokhdeaeegaa
open Go Go.Abs
abbrev Rts:=Array (List Nat)
abbrev rgT (r:List Nat):T:=.sl false 1 (ptL r)
def rowS (d:Rts) (m:Nat):AObj:=.row 1 ((d.toList.map rgT).map .t) m
def jV:Value→AV
 | .slice none n 1=>.ms 0 n 0 n 1 false
 | v=>.t (.sc v)
def jX (J:List (Value × Nat)):Heap:=J.map fun p=>.row 1 [jV p.1] p.2
theorem qhu {p:Nat→Bool} (h0:p 0=false) (v:Value):avoid p (jV v)=true:=by
 unfold jV
 split
 ·simp [avoid,h0]
 ·rfl
theorem q08 (J:List (Value × Nat)):(jX J).length=J.length:=by simp [jX]
theorem qhv (h:Heap) (p:Nat→Bool) (h0:p 0=false):∀ J,mapO (frzObj h p) (jX J)=some (jX J):=by
 intro J
 induction J with
 | nil=>rfl
 | cons x J ih =>
  simp only [jX,List.map_cons,mapO] at ih ⊢
  rw [ih]
  simp [frzObj,avoidAll,qhu h0]
theorem qhw (h:Heap) (p:Nat→Bool) (d:Rts) (m:Nat):frzObj h p (rowS d m)=some (rowS d m):=by
 rw [rowS]
 simp only [frzObj,q23,if_true]
def hS (d:Rts) (m:Nat) (J:List (Value × Nat)):Heap:=rowS d m::jX J
theorem q01 (d:Rts) (m:Nat) (J:List (Value × Nat)):(hS d m J).length=J.length+1:=by simp [hS,q08]
theorem hS_eq (d:Rts) (m:Nat) (J:List (Value × Nat)):hS d m J=.row 1 ((d.toList.map rgT).map .t) m::jX J:=rfl
theorem hS_0 (d:Rts) (m:Nat) (J:List (Value × Nat)):(hS d m J)[0]? = some (.row 1 ((d.toList.map rgT).map .t) m):=rfl
theorem q0n (d:Rts):((d.toList.map rgT).map AV.t).length=d.size:=by simp
theorem q06 {d:Rts} {i:Nat} (hi:i < d.size):((d.toList.map rgT).map AV.t)[i]? = some (.t (rgT d[i]!)):=by
 simp [hi,getElem!_pos]
theorem q0s {d:Rts} {i:Nat} {r:List Nat}:((d.toList.map rgT).map AV.t).set i (.t (rgT r))=(((d.setIfInBounds i r).toList).map rgT).map AV.t:=by
 simp [Array.toList_setIfInBounds,List.map_set]
theorem q0p (d:Rts) (i j:Nat):(Sort.swp d i j).size=d.size:=by simp [Sort.swp]
abbrev rowL (d:Rts):List AV:=(d.toList.map rgT).map .t
theorem q0y {d:Rts} {n i j:Nat} (hd:d.size=n) (hi:i < n) (hj:j < n):(rowL d)[i]? = some (.t (rgT d[i]!))∧(rowL d)[j]? = some (.t (rgT d[j]!))∧(rowL d).length=n ∧
  (rowL (d.setIfInBounds i d[j]!))[j]? = some (.t (rgT (d.setIfInBounds i d[j]!)[j]!))∧(rowL (d.setIfInBounds i d[j]!)).length=n:=by
 subst hd
 refine ⟨q06 hi,q06 hj,q0n d,q06 (by rw [Array.size_setIfInBounds]; exact hj),?_⟩
 rw [q0n,Array.size_setIfInBounds]
theorem q0t {d:Rts} {i j n:Nat} {J:List (Value × Nat)}:AObj.row 1 (rowL ((d.setIfInBounds i d[j]!).setIfInBounds j d[i]!)) n::jX J=hS (Sort.swp d i j) n J:=rfl
def okD (t:Tpo) (d:Rts):Prop:=∀ i,i < d.size→ptP t d[i]! ∧ d[i]!.length≤1000
theorem q6L {t:Tpo} {d:Rts} {i:Nat} {r:List Nat} (h:okD t d) (hr:ptP t r∧r.length≤1000):okD t (d.setIfInBounds i r):=by
 intro k hk
 rw [Array.size_setIfInBounds] at hk
 by_cases hik:i=k
 ·subst hik
  have:(d.setIfInBounds i r)[i]! = r:=by simp [getElem!_def,Array.getElem?_setIfInBounds,hk]
  rw [this]; exact hr
 ·have:(d.setIfInBounds i r)[k]! = d[k]!:=by simp [getElem!_def,Array.getElem?_setIfInBounds,hik]
  rw [this]; exact h k hk
theorem q0v {t:Tpo} {d:Rts} {i j:Nat} (h:okD t d) (hi:i < d.size) (hj:j < d.size):okD t (Sort.swp d i j):=q6L (q6L h (h j hj)) (h i hi)
abbrev ltR (t:Tpo):List Nat→List Nat→Bool:=befB (grT t)
theorem q6M (t:Tpo):Sort.SWO (ltR t):=⟨q1c,fun _ _ _ h1 h2=>q1G h1 h2,fun x y z h1 h2=>q2z h2 h1⟩
theorem q0g {t:Tpo} {a b:List Nat}:decide (cmpR t a b < 0)=ltR t a b:=by rw [Bool.eq_iff_iff,decide_eq_true_eq,qht]
abbrev cmF (c1 c2:Bool) (t:Tpo):T:=.fn (.func 42) [srT c1 c2 t] []
section
variable (c1 c2:Bool) (t:Tpo) (h:okT t=true)
include h
theorem q0j {d:Rts} (ho:okD t d) {i j:Nat} (hi:i < d.size) (hj:j < d.size):ans Try.prog pol 42 [srT c1 c2 t,rgT d[i]!,rgT d[j]!]=some (I (cmpR t d[i]! d[j]!)) :=
 q6K c1 c2 false false t h _ _ (ho i hi).1 (ho j hj).1 (ho i hi).2 (ho j hj).2
theorem qhx (n a:Nat) (x2 x8:T) (J:List (Value × Nat)) (J0:Inl) (nn:Nat) (han:(a:Int)≤9000000000000000000):∀ (j:Nat) (d:Rts) (m k:Nat),j < n→d.size=n→n≤9000000000000000000→okD t d→m≤n→j < k→∀ (R:Xit→FEnv→Heap→Prop) (e:FEnv),
  (e 0=.ms 0 n 0 n 1 false∧e 1=.t (I (a:Nat))∧e 2=.t x2∧e 3=.t (cmF c1 c2 t)∧e 8=.t x8∧e 9=.t (I (j:Nat))) →
  (∀ e m',m'≤n→(e 0=.ms 0 n 0 n 1 false∧e 1=.t (I (a:Nat))∧e 2=.t x2∧e 3=.t (cmF c1 c2 t)∧e 8=.t x8)→R (.exit 2) e (hS (Sort.insInner (ltR t) a j d) m' J)) →
  wpIter (J.length+1) (some [0,1,2,3,8,9]) (wc Try.prog pol (ans Try.prog pol) J0 nn 94 il94l0) R k e (hS d m J):=by
 intro j
 induction j with
 | zero =>
  intro d m k hj hd hn ho hm hk R e hs hR
  obtain ⟨k,rfl⟩:∃ q,k=q+1:=⟨k - 1,by omega⟩
  have d1:decide (((a:Nat):Int) < 0)=false:=decide_eq_false (by omega)
  rw [q07]
  (repeat' first|simp only [il94l0_go,il94l0b,go_sem,hs,d1]|with_reducible refine wX fun _=>?_|((with_reducible refine wY ?_ ?_); rfl)|fail)
  all_goals (refine hR _ m hm ?_; simp only [go_sem,hs])
 | succ j ih =>
  intro d m k hj hd hn ho hm hk R e hs hR
  obtain ⟨k,rfl⟩:∃ q,k=q+1:=⟨k - 1,by omega⟩
  have w1:IntKind.i64.wrap (((j+1:Nat):Int) - 1)=((j:Nat):Int):=by rw [q00 (by omega) (by omega)]; omega
  rw [Sort.insInner] at hR
  rw [q07,hS_eq]
  have gl:=q0n d
  have hj2:j < n:=by omega
  rw [hd] at gl
  by_cases hja:j+1 > a
  ·have d1:decide (((j+1:Nat):Int) > ((a:Nat):Int))=true:=decide_eq_true (by omega)
   have g1:=q06 (d:=d) (i:=j+1) (by omega)
   have g2:=q06 (d:=d) (i:=j) (by omega)
   have kc:=q0j c1 c2 t h ho (i:=j+1) (j:=j) (by omega) (by omega)
   have dl:=@q0g t d[j+1]! d[j]!
   cases hlt:ltR t d[j+1]! d[j]! with
   | false =>
    rw [hlt] at dl hR
    rw [if_neg (by simp)] at hR
    (repeat' first|simp only [il94l0_go,il94l0b,go_sem,hs,d1,w1,g1,g2,kc,dl,gl,hm,hj,hj2]|with_reducible refine wX fun _=>?_|((with_reducible refine wY ?_ ?_); rfl)|fail)
    all_goals (refine hR _ m hm ?_; simp only [go_sem,hs])
   | true =>
    rw [hlt] at dl hR
    rw [if_pos (by simp [hja])] at hR
    have sf:=q0y hd hj hj2
    (repeat' first|simp only [il94l0_go,il94l0b,go_sem,hs,d1,w1,kc,dl,sf,hm,hj,hj2,q0s,q08]|with_reducible refine wX fun _=>?_|((with_reducible refine wY ?_ ?_); rfl)|fail)
    all_goals (rw [q0t]; refine ih (Sort.swp d (j+1) j) n k hj2 (by rw [q0p]; exact hd) hn (q0v ho (by omega) (by omega)) (Nat.le_refl n) (by omega) R _ ?_ hR; simp only [go_sem,hs,w1])
  ·have d1:decide (((j+1:Nat):Int) > ((a:Nat):Int))=false:=decide_eq_false (by omega)
   rw [if_neg (by simp [hja])] at hR
   (repeat' first|simp only [il94l0_go,il94l0b,go_sem,hs,d1]|with_reducible refine wX fun _=>?_|((with_reducible refine wY ?_ ?_); rfl)|fail)
   all_goals (refine hR _ m hm ?_; simp only [go_sem,hs])
theorem qhy (a:Nat):∀ (j:Nat) (d:Rts),j < d.size→okD t d→(Sort.insInner (ltR t) a j d).size=d.size∧okD t (Sort.insInner (ltR t) a j d):=by
 intro j
 induction j with
 | zero=>intro d _ ho; exact ⟨rfl,ho⟩
 | succ j ih =>
  intro d hj ho
  rw [Sort.insInner]
  split
  ·obtain ⟨i1,i2⟩:=ih (Sort.swp d (j+1) j) (by rw [q0p]; omega) (q0v ho (by omega) (by omega))
   exact ⟨by rw [i1,q0p],i2⟩
  ·exact ⟨rfl,ho⟩
theorem qhz (n a b:Nat) (J:List (Value × Nat)) (J0:Inl) (nn:Nat) (hn:n≤9000000000000000000) (hnn:n < nn) (hab:a≤b) (hb:b≤n):∀ (r i:Nat) (d:Rts) (m k:Nat),i+r=b∨b < i∧r=0→i≤b+1→d.size=n→okD t d→m≤n→r < k→∀ (R:Xit→FEnv→Heap→Prop) (e:FEnv),
  (e 0=.ms 0 n 0 n 1 false∧e 1=.t (I (a:Nat))∧e 2=.t (I (b:Nat))∧e 3=.t (cmF c1 c2 t)∧e 8=.t (I (i:Nat))) →
  (∀ e m',m'≤n→R (.exit 0) e (hS (Sort.insOuter (ltR t) a b i d) m' J)) →
  wpIter (J.length+1) (some [0,1,2,3,8]) (wc Try.prog pol (ans Try.prog pol) J0 nn 94 il94l1) R k e (hS d m J):=by
 intro r
 induction r with
 | zero =>
  intro i d m k hi hib hd ho hm hk R e hs hR
  obtain ⟨k,rfl⟩:∃ q,k=q+1:=⟨k - 1,by omega⟩
  have d1:decide (((i:Nat):Int) < ((b:Nat):Int))=false:=decide_eq_false (by omega)
  rw [Sort.insOuter,if_neg (by omega)] at hR
  rw [q07]
  (repeat' first|simp only [il94l1_go,il94l1b,go_sem,hs,d1]|with_reducible refine wX fun _=>?_|((with_reducible refine wY ?_ ?_); rfl)|fail)
  all_goals exact hR _ m hm
 | succ r ih =>
  intro i d m k hi hib hd ho hm hk R e hs hR
  obtain ⟨k,rfl⟩:∃ q,k=q+1:=⟨k - 1,by omega⟩
  have hi2:i < b:=by omega
  have d1:decide (((i:Nat):Int) < ((b:Nat):Int))=true:=decide_eq_true (by omega)
  have w1:IntKind.i64.wrap (((i:Nat):Int)+1)=((i+1:Nat):Int):=q00 (by omega) (by omega)
  rw [Sort.insOuter,if_pos hi2] at hR
  obtain ⟨s1,s2⟩:=qhy t h a i d (by omega) ho
  rw [q07]
  (repeat' first|simp only [il94l1_go,il94l1b,go_sem,hs,d1,q01]|with_reducible refine wX fun _=>?_|((with_reducible refine wY ?_ ?_); rfl)|fail)
  refine qhx c1 c2 t h n a (I (b:Nat)) (I (i:Nat)) J _ nn (by omega) i d m nn (by omega) hd hn ho hm (by omega) _ _ (by simp only [go_sem,hs]) ?_
  intro e1 m1 hm1 he1
  (repeat' first|simp only [il94l1_go,il94l1b,go_sem,he1,w1,q01]|with_reducible refine wX fun _=>?_|((with_reducible refine wY ?_ ?_); rfl)|fail)
  all_goals (refine ih (i+1) _ m1 k (by omega) (by omega) (s1.trans hd) s2 hm1 (by omega) R _ ?_ hR; simp only [go_sem,he1,w1])
theorem q6N (n a b:Nat) (J:List (Value × Nat)) (nn dd:Nat) (hn:n≤9000000000000000000) (hnn:n < nn) (hab:a≤b) (hb:b≤n) (d:Rts) (m:Nat) (hd:d.size=n) (ho:okD t d) (hm:m≤n) (Q:AV→Heap→Prop)
  (hQ:∀ m',m'≤n→Q (.t (.tup [])) (hS (Sort.insertionSort (ltR t) d a b) m' J)) :
  oB (inl Try.prog pol (ans Try.prog pol) nn (dd+1) (.fn 94) [.ms 0 n 0 n 1 false,.t (I (a:Nat)),.t (I (b:Nat)),.t (cmF c1 c2 t)] (hS d m J)) Q:=by
 have w1:IntKind.i64.wrap (((a:Nat):Int)+1)=((a+1:Nat):Int):=q00 (by omega) (by omega)
 with_reducible refine q0i il94_eq ?_ ?_
 ·exact Nat.le_of_ble_eq_true rfl
 (repeat' first|simp only [il94c,go_sem,w1,q01]|with_reducible refine wX fun _=>?_|((with_reducible refine wY ?_ ?_); rfl)|fail)
 refine qhz c1 c2 t h n a b J _ nn hn hnn hab hb (b - (a+1)) (a+1) d m nn (by omega) (by omega) hd ho hm (by omega) _ _ (by simp only [go_sem]) ?_
 intro e m1 hm1
 (repeat' first|simp only [il94c,go_sem,q01]|with_reducible refine wX fun _=>?_|((with_reducible refine wY ?_ ?_); rfl)|fail)
 all_goals exact hQ m1 hm1
end
end Go.Proofs.Ytnjaokhdeaeegaa
namespace Go.Proofs.Ytnjaokhdeaeegaa
open Go Go.Abs
def kE (cut:Nat→Bool) (i:Nat) (l:Lk):List Ed:=if cut i=true then [] else [⟨l.a.toNat,l.b.toNat,0⟩,⟨l.b.toNat,l.a.toNat,0⟩]
def kEs (cut:Nat→Bool):Nat→List Lk→List Ed
 | _,[]=>[]
 | i,l::ls=>kE cut i l++kEs cut (i+1) ls
def RelS (N:Nat) (r:List Bool) (S:Nat→Bool):Prop:=r.length=N∧∀ n,n < N→r[n]? = some (S n)
theorem qhA {N:Nat} {cut:Nat→Bool} {i:Nat} {r:List Bool} {S:Nat→Bool} {l:Lk} (h:RelS N r S) (ha:l.a.toNat < N) (hb:l.b.toNat < N) (hab:l.a.toNat≠l.b.toNat):RelS N (rStep cut i r l) (sprB (kE cut i l) S):=by
 obtain ⟨h1,h2⟩:=h
 have ea:rB r l.a=S l.a.toNat:=by rw [rB,h2 _ ha]; rfl
 have eb:rB r l.b=S l.b.toNat:=by rw [rB,h2 _ hb]; rfl
 unfold rStep kE
 rw [ea,eb]
 generalize l.a.toNat=A at *
 generalize l.b.toNat=B at *
 cases hc:cut i with
 | true=>simp only [Bool.not_true,Bool.false_and,Bool.false_eq_true,if_false,if_true]; exact ⟨h1,h2⟩
 | false =>
  simp only [Bool.not_false,Bool.true_and,Bool.false_eq_true,if_false]
  have hv:∀ n,sprB [⟨A,B,0⟩,⟨B,A,0⟩] S n=if n=A∨n=B then (S A || S B) else S n:=by
   intro n
   show bpE (bpE S ⟨A,B,0⟩) ⟨B,A,0⟩ n=_
   unfold bpE
   by_cases hn:n=B
   ·subst hn
    rw [if_pos (.inr rfl),q0S]
    simp only [q0S]
    rw [q0T (fun h=>hab h.symm)]
    cases S A <;> cases S n <;> rfl
   ·rw [q0T hn]
    by_cases hn2:n=A
    ·subst hn2; rw [if_pos (.inl rfl),q0S]
    ·rw [if_neg (fun h=>h.elim hn2 hn),q0T hn2]
  refine ⟨?_,fun n hn=>?_⟩
  ·split <;> simp [h1]
  ·rw [hv n]
   by_cases hq:(S A != S B)=true
   ·rw [if_pos hq]
    have hor:(S A || S B)=true:=by revert hq; cases S A <;> cases S B <;> decide
    by_cases hn2:n=B
    ·subst hn2; rw [if_pos (.inr rfl),List.getElem?_set_self (by simp; omega),hor]
    ·rw [List.getElem?_set_ne (fun h=>hn2 h.symm)]
     by_cases hn3:n=A
     ·subst hn3; rw [if_pos (.inl rfl),List.getElem?_set_self (by omega),hor]
     ·rw [if_neg (fun h=>h.elim hn3 hn2),List.getElem?_set_ne (fun h=>hn3 h.symm)]
      exact h2 n hn
   ·rw [if_neg hq,h2 n hn]
    have heq:S A=S B:=by revert hq; cases S A <;> cases S B <;> decide
    by_cases hn2:n=A∨n=B
    ·rw [if_pos hn2]
     rcases hn2 with rfl|rfl
     ·rw [heq]; simp
     ·rw [heq]; simp
    ·rw [if_neg hn2]
theorem qhB {N:Nat} {cut:Nat→Bool}:∀ (ls:List Lk) (i:Nat) (r:List Bool) (S:Nat→Bool),(∀ l∈ls,l.a.toNat < N∧l.b.toNat < N∧l.a.toNat≠l.b.toNat)→RelS N r S→RelS N (rRound cut i ls r) (sprB (kEs cut i ls) S):=by
 intro ls
 induction ls with
 | nil=>intro i r S _ h; exact h
 | cons l ls ih =>
  intro i r S hv h
  have h0:=hv l (by simp)
  have h1:=qhA (cut:=cut) (i:=i) h h0.1 h0.2.1 h0.2.2
  have h2:=ih (i+1) _ _ (fun m hm=>hv m (by simp [hm])) h1
  rw [rRound,kEs,sprB,List.foldl_append]
  exact h2
theorem qhC {σ:Type} (f:σ→σ):∀ (n:Nat) (s:σ),iter f n (f s)=f (iter f n s):=by
 intro n
 induction n with
 | zero=>intro s; rfl
 | succ n ih=>intro s; show f (iter f n (f s))=_; rw [ih]; rfl
theorem qhD {N:Nat} {cut:Nat→Bool} {ls:List Lk} (hv:∀ l∈ls,l.a.toNat < N∧l.b.toNat < N∧l.a.toNat≠l.b.toNat):∀ (n:Nat) (r:List Bool) (S:Nat→Bool),RelS N r S→RelS N (rIter cut ls n r) (iter (sprB (kEs cut 0 ls)) n S):=by
 intro n
 induction n with
 | zero=>intro r S h; exact h
 | succ n ih =>
  intro r S h
  have:=ih _ _ (qhB (cut:=cut) ls 0 r S hv h)
  rw [rIter]
  rwa [qhC] at this
theorem q2K {cut:Nat→Bool} {e:Ed}:∀ (ls:List Lk) (i:Nat),e∈kEs cut i ls↔∃ j l,ls[j]? = some l∧cut (i+j)=false∧(e=⟨l.a.toNat,l.b.toNat,0⟩∨e=⟨l.b.toNat,l.a.toNat,0⟩):=by
 intro ls
 induction ls with
 | nil=>intro i; simp [kEs]
 | cons l ls ih =>
  intro i
  rw [kEs,List.mem_append,ih]
  constructor
  ·rintro (h|⟨j,m,h1,h2,h3⟩)
   ·unfold kE at h
    split at h
    ·cases h
    ·rename_i hc
     refine ⟨0,l,rfl,by simpa using hc,by simpa using h⟩
   ·exact ⟨j+1,m,by simpa using h1,by rw [← h2]; congr 1; omega,h3⟩
  ·rintro ⟨j,m,h1,h2,h3⟩
   cases j with
   | zero =>
    left
    simp only [List.getElem?_cons_zero,Option.some.injEq] at h1
    subst h1
    have h2':cut i=false:=h2
    rw [kE,if_neg (by rw [h2']; simp)]
    simpa using h3
   | succ j=>exact .inr ⟨j,m,by simpa using h1,by rw [← h2]; congr 1; omega,h3⟩
theorem qhE (cut:Nat→Bool) (ls:List Lk):∀ e∈kEs cut 0 ls,(⟨e.b,e.a,e.w⟩:Ed)∈kEs cut 0 ls:=by
 intro e he
 rw [q2K] at he ⊢
 obtain ⟨j,l,h1,h2,h3⟩:=he
 refine ⟨j,l,h1,h2,?_⟩
 rcases h3 with rfl|rfl
 ·exact .inr rfl
 ·exact .inl rfl
theorem q6O {t:Tpo} {s:Nat} {cut:Nat→Bool} (hv:∀ l∈t.links,endsP t l) (hs:s < t.nodes.toNat) {n:Nat} (hn:n < t.nodes.toNat):(reachL t s cut)[n]? = some true↔Cn (kEs cut 0 t.links) n s:=by
 have hv2:∀ l∈t.links,l.a.toNat < t.nodes.toNat∧l.b.toNat < t.nodes.toNat∧l.a.toNat≠l.b.toNat:=fun l hl=>by
  obtain ⟨⟨h1,h2⟩,⟨h3,h4⟩,h5⟩:=hv l hl
  omega
 have h0:RelS t.nodes.toNat ((List.replicate t.nodes.toNat false).set s true) (fun j=>decide (j=s)):=by
  refine ⟨by simp,fun n hn=>?_⟩
  by_cases h:n=s
  ·subst h; rw [List.getElem?_set_self (by simpa using hn)]; simp
  ·rw [List.getElem?_set_ne (fun e=>h e.symm),List.getElem?_replicate,if_pos hn]; simp [h]
 have h1:=(qhD (cut:=cut) hv2 t.nodes.toNat _ _ h0).2 n hn
 rw [reachL,h1,Option.some.injEq]
 refine qa2 (fun e he=>?_) s n
 rw [q2K] at he
 obtain ⟨j,l,q1,q2,q3⟩:=he
 have:=hv2 l (List.mem_of_getElem? q1)
 rcases q3 with rfl|rfl
 ·exact this.1
 ·exact this.2.1
end Go.Proofs.Ytnjaokhdeaeegaa
namespace Go.Proofs.Ytnjaokhdeaeegaa
open Go Go.Abs
def bA (S:List Bool) (n:Nat):Bool:=S[n]?.getD false
def jrS (t:Tpo) (frm:Nat) (node link:Int) (S:List Bool) (p:Nat):List Bool:=if bA S (frN t p)=true∧badP (grT t) (stA t) frm node link p=false then S.set (toN t p) true else S
def jrR (t:Tpo) (frm:Nat) (node link:Int) (S:List Bool):List Bool:=(List.range (2*t.links.length)).foldl (jrS t frm node link) S
theorem qhF {t:Tpo} (h:okT t=true) {frm:Nat} {node link:Int} {N:Nat} (hN:t.nodes.toNat≤N) {r:List Bool} {S:Nat→Bool} (hr:RelS N r S) {p:Nat} (hp:p < 2*t.links.length):RelS N (jrS t frm node link r p) (sprB (jnE (grT t) (stA t) frm node link p) S):=by
 obtain ⟨_,_,n1,n2,_⟩:=q0l h hp
 have hf:bA r (frN t p)=S (frN t p):=by rw [bA,hr.2 _ (by omega)]; rfl
 unfold jrS jnE
 rw [hf]
 cases hb:badP (grT t) (stA t) frm node link p with
 | true=>rw [if_pos rfl,if_neg (fun k=>by cases k.2)]; exact hr
 | false =>
  rw [if_neg (show ¬ (false=true) by simp)]
  show RelS N _ (bpE S ⟨toN t p,frN t p,0⟩)
  unfold bpE
  dsimp only
  cases hs:S (frN t p) with
  | false=>rw [if_neg (show ¬ (false=true∧false=false) from fun k=>by cases k.1),Bool.or_false,q9Y (x:=S (toN t p)) rfl]; exact hr
  | true =>
   rw [if_pos ⟨rfl,rfl⟩,Bool.or_true]
   refine ⟨by rw [List.length_set]; exact hr.1,fun n hn=>?_⟩
   by_cases e:n=toN t p
   ·subst e; rw [q0S,List.getElem?_set_self (by rw [hr.1]; exact hn)]
   ·rw [q0T e,List.getElem?_set_ne (fun k=>e k.symm)]; exact hr.2 n hn
theorem qhG {t:Tpo} (h:okT t=true) {frm:Nat} {node link:Int} {N:Nat} (hN:t.nodes.toNat≤N) {r:List Bool} {S:Nat→Bool} (hr:RelS N r S):RelS N (jrR t frm node link r) (sprB (jnEs (grT t) (stA t) frm node link) S):=by
 have key:∀ k,k≤2*t.links.length→RelS N ((List.range k).foldl (jrS t frm node link) r) (sprB ((List.range k).flatMap (jnE (grT t) (stA t) frm node link)) S):=by
  intro k
  induction k with
  | zero=>intro _; exact hr
  | succ k ih =>
   intro hk
   have ih:=ih (by omega)
   rw [List.range_succ,List.foldl_append,List.foldl_cons,List.foldl_nil,List.flatMap_append,sprB,List.foldl_append]
   change RelS N _ (sprB _ (sprB ((List.range k).flatMap (jnE (grT t) (stA t) frm node link)) S))
   rw [List.flatMap_cons,List.flatMap_nil,List.append_nil]
   exact qhF h hN ih (by omega)
 exact key _ (Nat.le_refl _)
def jrL (t:Tpo) (frm:Nat) (node link:Int) (k:Nat):List Bool:=(List.range k).foldl (fun S _=>jrR t frm node link S) ((List.replicate 12 false).set frm true)
theorem qhH {t:Tpo} (h:okT t=true) {frm:Nat} (hf:frm < 12) {node link:Int} (k:Nat):RelS 12 (jrL t frm node link k) (iter (sprB (jnEs (grT t) (stA t) frm node link)) k (fun j=>decide (j=frm))):=by
 obtain ⟨z1,z2,z3⟩:=q0d h
 unfold jrL
 induction k with
 | zero =>
  refine ⟨by simp,fun n hn=>?_⟩
  show ((List.replicate 12 false).set frm true)[n]? = some (decide (n=frm))
  by_cases e:n=frm
  ·subst e; rw [List.getElem?_set_self (by simpa using hn)]; simp
  ·rw [List.getElem?_set_ne (fun k=>e k.symm),List.getElem?_replicate,if_pos hn]; simp [e]
 | succ k ih=>rw [List.range_succ,List.foldl_append,List.foldl_cons,List.foldl_nil]; exact qhG h (by omega) ih
theorem q6P {t:Tpo} {frm:Nat} {node link:Int} {S:List Bool} (p:Nat):(jrS t frm node link S p).length=S.length:=by unfold jrS; split <;> simp
theorem qhI {t:Tpo} {frm:Nat} {node link:Int} {S:List Bool}:(jrR t frm node link S).length=S.length:=by
 unfold jrR
 generalize 2*t.links.length=k
 induction k with
 | zero=>rfl
 | succ k ih=>rw [List.range_succ,List.foldl_append,List.foldl_cons,List.foldl_nil,q6P,ih]
abbrev srS (c1 c2:Bool) (t:Tpo):List T:=srC c1 c2 t (endsL t (frP t)) (endsL t (toP t))
theorem q6Q {S:List Bool} {n:Nat} (h:n < S.length):((S.map B).map AV.t)[n]? = some (.t (B (bA S n))):=q1r (enc:=B) (by simp [bA,h])
theorem q28:∀ l:List Bool,storableAll ((l.map B).map AV.t)=true:=by
 intro l
 induction l with
 | nil=>rfl
 | cons x l ih=>exact ih
section
variable (c1 c2:Bool) (t:Tpo) (h:okT t=true) (frm:Nat) (hf:frm < t.nodes.toNat) (node link:Int)
include h hf
theorem qhJ (x2 x18 x19:T) (S:List Bool) (hS:S.length=12)
  (J:Inl) (nn:Nat) (hn:100 < nn) (R:Xit→FEnv→Heap→Prop) (e:FEnv)
  (he:e 1=.t (I (frm:Nat))∧e 2=.t x2∧e 3=.t (I node)∧e 4=.t (I link)∧e 5=.t (.ip (srS c1 c2 t))∧e 11=.ref 0 1 0 0∧e 18=.t x18∧e 19=.t x19∧e 22=.t (I ((2*t.links.length:Nat):Int))∧e 23=.t (I 0))
  (hR:∀ e,(e 1=.t (I (frm:Nat))∧e 2=.t x2∧e 3=.t (I node)∧e 4=.t (I link)∧e 5=.t (.ip (srS c1 c2 t))∧e 11=.ref 0 1 0 0∧e 18=.t x18∧e 19=.t x19)→R (.exit 2) e [.row 12 [.t (.agg ((jrR t frm node link S).map B))] 1]) :
  wpIter 1 (some [1,2,3,4,5,11,18,19,22,23]) (wc Try.prog pol (ans Try.prog pol) J nn 61 il61l0) R nn e [.row 12 [.t (.agg (S.map B))] 1]:=by
 obtain ⟨z1,z2,z3⟩:=q0d h
 refine q0E (2*t.links.length) (step:=fun p S=>.go (jrS t frm node link S p)) (fin:=id)
  (St:=fun p S e h'=>(e 1=.t (I (frm:Nat))∧e 2=.t x2∧e 3=.t (I node)∧e 4=.t (I link)∧e 5=.t (.ip (srS c1 c2 t))∧e 11=.ref 0 1 0 0∧e 18=.t x18∧e 19=.t x19∧e 22=.t (I ((2*t.links.length:Nat):Int))∧e 23=.t (I (p:Nat)))∧S.length=12∧h'=[.row 12 [.t (.agg (S.map B))] 1])
  (Ex:=fun S x e h'=>(e 1=.t (I (frm:Nat))∧e 2=.t x2∧e 3=.t (I node)∧e 4=.t (I link)∧e 5=.t (.ip (srS c1 c2 t))∧e 11=.ref 0 1 0 0∧e 18=.t x18∧e 19=.t x19)∧x=.exit 2∧h'=[.row 12 [.t (.agg (S.map B))] 1]) (s:=S) (by omega) ?_ ?_ (by omega) ⟨he,hS,rfl⟩ ?_
 ·intro p S e h' Y R' hp hlt hw ⟨hs,hS,hh⟩ hk
  subst hh
  simp only [q05] at hk
  obtain ⟨p1,p2,n1,n2,_⟩:=q0l h hp
  have gF:=q2J (c1:=c1) (c2:=c2) (t:=t) (G:=endsL t (toP t)) (q0Q (f:=frP t) z3 hp)
  have gT:=q1t (c1:=c1) (c2:=c2) (t:=t) (q0a t (frP t)) (q0Q (f:=toP t) z3 hp)
  rw [p1] at gF
  rw [p2] at gT
  have h48:p < 48:=by omega
  have f12:frN t p < 12:=by omega
  have t12:toN t p < 12:=by omega
  have gS:=q6Q (S:=S) (n:=frN t p) (by omega)
  have gst:(t.station.map B)[frN t p]? = some (B (stA t (frN t p))):=(q1H t z2 ⟨by omega,by omega⟩:(t.station.map B)[(((frN t p):Nat):Int).toNat]? = _∧_).1
  have hst:frN t p < t.station.length:=by omega
  have v:=q16 hp (show t.links.length≤1000 by omega)
  have tk:=@tkdr ((S.map B).map AV.t) (toN t p) (.t (B true)) (by simp; omega)
  have hset:=map_set (enc:=B) (l:=S) (i:=toN t p) (x:=true)
  have b12:toN t p+1≤12:=by omega
  have hlen:(S.map B).length=12:=by simp [hS]
  have hsl:(jrS t frm node link S p).length=12:=by rw [q6P]; exact hS
  have hbd:badP (grT t) (stA t) frm node link p=(decide (((p / 2:Nat):Int)=link) || (decide (((frN t p:Nat):Int)=node) || (!decide (((frN t p:Nat):Int)=(frm:Nat)) && stA t (frN t p)))):=by
   have:decide ((grT t).fr p≠frm) = !decide (((frN t p:Nat):Int)=(frm:Nat)):=by
    show decide (frN t p≠frm)=_
    rw [Bool.eq_iff_iff]; simp only [decide_eq_true_eq,Bool.not_eq_true',decide_eq_false_iff_not]; omega
   rw [badP,this]; rfl
  unfold jrS at hk hsl
  rw [hbd] at hk hsl
  clear hbd
  generalize toN t p=C at *
  generalize frN t p=A at *
  generalize hd1:decide (((p / 2:Nat):Int)=link)=d1 at *
  generalize hd2:decide (((A:Nat):Int)=node)=d2 at *
  generalize hd3:decide (((A:Nat):Int)=(frm:Nat))=d3 at *
  generalize stA t A=sa at *
  generalize bA S A=ba at *
  cases ba with
  | false =>
   rw [if_neg (fun k=>by cases k.1)] at hk hsl
   (repeat' first|simp only [il61l0_go,il61l0b,go_sem,hs,hlt,hw,gF,gT,h48,f12,t12,gS,gst,hst,v,q0b,Nat.mul_one,hlen,List.drop_drop]|with_reducible refine wX fun _=>?_|((with_reducible refine wY ?_ ?_); rfl)|fail)
   all_goals (refine hk _ _ ⟨?_,hS,?_⟩ <;> simp only [go_sem,hs,hw])
  | true=>
   cases d1 with
   | true =>
    rw [if_neg (fun k=>by cases k.2)] at hk hsl
    (repeat' first|simp only [il61l0_go,il61l0b,go_sem,hs,hlt,hw,gF,gT,h48,f12,t12,gS,gst,hst,v,hd1,q0b,Nat.mul_one,hlen,List.drop_drop]|with_reducible refine wX fun _=>?_|((with_reducible refine wY ?_ ?_); rfl)|fail)
    all_goals (refine hk _ _ ⟨?_,hS,?_⟩ <;> simp only [go_sem,hs,hw])
   | false =>
    cases d2 with
    | true =>
     rw [if_neg (fun k=>by cases k.2)] at hk hsl
     (repeat' first|simp only [il61l0_go,il61l0b,go_sem,hs,hlt,hw,gF,gT,h48,f12,t12,gS,gst,hst,v,hd1,hd2,q0b,Nat.mul_one,hlen,List.drop_drop]|with_reducible refine wX fun _=>?_|((with_reducible refine wY ?_ ?_); rfl)|fail)
     all_goals (refine hk _ _ ⟨?_,hS,?_⟩ <;> simp only [go_sem,hs,hw])
    | false =>
     cases d3 with
     | true =>
      rw [if_pos ⟨rfl,rfl⟩] at hk hsl
      (repeat' first|simp only [il61l0_go,il61l0b,go_sem,hs,hlt,hw,gF,gT,h48,f12,t12,gS,gst,hst,v,hd1,hd2,hd3,q0b,Nat.mul_one,hlen,tk,hset,b12,List.drop_drop]|with_reducible refine wX fun _=>?_|((with_reducible refine wY ?_ ?_); rfl)|fail)
      all_goals (refine hk _ _ ⟨?_,hsl,?_⟩ <;> simp only [go_sem,hs,hw])
     | false =>
      cases sa with
      | true =>
       rw [if_neg (fun k=>by cases k.2)] at hk hsl
       (repeat' first|simp only [il61l0_go,il61l0b,go_sem,hs,hlt,hw,gF,gT,h48,f12,t12,gS,gst,hst,v,hd1,hd2,hd3,q0b,Nat.mul_one,hlen,List.drop_drop,srC_1]|with_reducible refine wX fun _=>?_|((with_reducible refine wY ?_ ?_); rfl)|fail)
       all_goals (refine hk _ _ ⟨?_,hS,?_⟩ <;> simp only [go_sem,hs,hw])
      | false =>
       rw [if_pos ⟨rfl,rfl⟩] at hk hsl
       (repeat' first|simp only [il61l0_go,il61l0b,go_sem,hs,hlt,hw,gF,gT,h48,f12,t12,gS,gst,hst,v,hd1,hd2,hd3,q0b,Nat.mul_one,hlen,tk,hset,b12,List.drop_drop,srC_1]|with_reducible refine wX fun _=>?_|((with_reducible refine wY ?_ ?_); rfl)|fail)
       all_goals (refine hk _ _ ⟨?_,hsl,?_⟩ <;> simp only [go_sem,hs,hw])
 ·intro S e h' Y R' hlt ⟨hs,hS,hh⟩ hk
  subst hh
  (repeat' first|simp only [il61l0_go,il61l0b,go_sem,hs,hlt]|with_reducible refine wX fun _=>?_|((with_reducible refine wY ?_ ?_); rfl)|fail)
  all_goals (refine hk _ _ _ ⟨?_,rfl,rfl⟩; simp only [go_sem,hs,id])
 ·intro x e h' ⟨h1,h2,h3⟩
  subst h2 h3
  have hfo:∀ (k i:Nat) (S:List Bool),foldC (ρ:=List Bool) (fun p (_:Unit) S=>Ctl.go (jrS t frm node link S p)) id i (List.replicate k ()) S=(List.range' i k).foldl (jrS t frm node link) S:=by
   intro k
   induction k with
   | zero=>intro i S; rfl
   | succ k ih=>intro i S; rw [List.replicate_succ,q0f (s':=jrS t frm node link S i) rfl,ih,List.range'_succ]; rfl
  rw [hfo,← List.range_eq_range'] at *
  exact hR _ h1
theorem q6R (tgt:Nat) (ht:tgt < t.nodes.toNat):ans Try.prog pol 61 [srT c1 c2 t,I (frm:Nat),I (tgt:Nat),I node,I link]=some (B (jnB (grT t) (stA t) frm t.nodes.toNat node link tgt)):=by
 obtain ⟨z1,z2,z3⟩:=q0d h
 have hNn:((t.nodes.toNat:Nat):Int)=t.nodes:=by omega
 have hrel:=qhH h (frm:=frm) (by omega) (node:=node) (link:=link) t.nodes.toNat
 have hres:jnB (grT t) (stA t) frm t.nodes.toNat node link tgt=bA (jrL t frm node link t.nodes.toNat) tgt:=by
  rw [bA,hrel.2 tgt (by omega)]; rfl
 rw [hres]
 have hlen:=hrel.1
 clear hres hrel
 have hsr:=q0C (c1:=c1) (c2:=c2) (t:=t) (F:=endsL t (frP t)) (G:=endsL t (toP t))
 have hl:=q0F (c1:=c1) (c2:=c2) (t:=t) (q0a t (frP t)) (q0a t (toP t))
 have htk:List.take 99 (srS c1 c2 t)=srS c1 c2 t:=List.take_of_length_le (by rw [hl]; exact Nat.le_refl _)
 have kP:=q1I c1 c2 t (endsL t (frP t)) (endsL t (toP t)) h
 have tk:=@tkdr (((List.replicate 12 false).map B).map AV.t) frm (.t (B true)) (by simp; omega)
 have hset:=map_set (enc:=B) (l:=List.replicate 12 false) (i:=frm) (x:=true)
 have f12:frm < 12:=by omega
 have b12:frm+1≤12:=by omega
 have t12:tgt < 12:=by omega
 have hS0:((List.replicate 12 false).set frm true).length=12:=by simp
 have hLL:jrL t frm node link t.nodes.toNat=(List.range t.nodes.toNat).foldl (fun S _=>jrR t frm node link S) ((List.replicate 12 false).set frm true):=rfl
 rw [hLL] at hlen ⊢
 have hsto:=q28 (List.replicate 12 false)
 have hzl:((List.replicate 12 false).map B).length=12:=by simp
 generalize hz:List.replicate 12 false=Z at *
 have hzB:zB12=Z.map B:=by rw [← hz]; rfl
 generalize Z.set frm true=S0 at *
 clear hLL
 generalize hNN:t.nodes.toNat=N at *
 obtain ⟨nn,hn⟩:∃ nn,1000 < nn:=⟨1001,by omega⟩
 refine q02 nn 1 il61_eq (Nat.le_of_ble_eq_true rfl) ?_
 (repeat' first|simp only [il61c,go_sem,hsr,hzB,hsto,hzl,f12,b12,tk,hset,srC_0,q3R,q0b,Nat.mul_one]|with_reducible refine wX fun _=>?_|((with_reducible refine wY ?_ ?_); rfl)|fail)
 refine q0E N (step:=fun _ S=>.go (jrR t frm node link S)) (fin:=id)
  (St:=fun i S e h'=>(e 1=.t (I (frm:Nat))∧e 2=.t (I (tgt:Nat))∧e 3=.t (I node)∧e 4=.t (I link)∧e 5=.t (.ip (srS c1 c2 t))∧e 11=.ref 0 1 0 0∧e 18=.t (I t.nodes)∧e 19=.t (I (i:Nat)))∧S.length=12∧h'=[.row 12 [.t (.agg (S.map B))] 1])
  (Ex:=fun S x e h'=>(e 2=.t (I (tgt:Nat))∧e 11=.ref 0 1 0 0)∧x=.exit 0∧h'=[.row 12 [.t (.agg (S.map B))] 1]) (s:=S0) (by omega) ?_ ?_ (by omega) ?_ ?_
 ·intro i S e h' Y R hi hlt hw ⟨hs,hS,hh⟩ hk
  subst hh
  simp only [q05] at hk
  have hlt:decide ((i:Int) < t.nodes)=true:=by rw [← hNn]; exact hlt
  (repeat' first|simp only [il61l1_go,il61l1b,go_sem,hs,hlt,hl,htk,kP]|with_reducible refine wX fun _=>?_|((with_reducible refine wY ?_ ?_); rfl)|fail)
  refine qhJ c1 c2 t h frm (by omega) node link (I (tgt:Nat)) (I t.nodes) (I (i:Nat)) S hS _ _ (by omega) _ _ (by simp only [go_sem,hs]) ?_
  intro e' he'
  (repeat' first|simp only [il61l1_go,il61l1b,go_sem,he',hw]|with_reducible refine wX fun _=>?_|((with_reducible refine wY ?_ ?_); rfl)|fail)
  all_goals (refine hk _ _ ⟨?_,by rw [qhI]; exact hS,rfl⟩; simp only [go_sem,he',hw])
 ·intro S e h' Y R hlt ⟨hs,hS,hh⟩ hk
  subst hh
  have hlt:decide ((N:Int) < t.nodes)=false:=by rw [← hNn]; exact hlt
  (repeat' first|simp only [il61l1_go,il61l1b,go_sem,hs,hlt]|with_reducible refine wX fun _=>?_|((with_reducible refine wY ?_ ?_); rfl)|fail)
  all_goals (refine hk _ _ _ ⟨?_,rfl,rfl⟩; simp only [go_sem,hs,id])
 ·refine ⟨?_,hS0,rfl⟩
  simp only [go_sem]
 ·intro x e h' ⟨h1,h2,h3⟩
  have hfo:∀ (k i:Nat) (S:List Bool),foldC (ρ:=List Bool) (fun (_:Nat) (_:Unit) S=>Ctl.go (jrR t frm node link S)) id i (List.replicate k ()) S=(List.range' i k).foldl (fun S _=>jrR t frm node link S) S:=by
   intro k
   induction k with
   | zero=>intro i S; rfl
   | succ k ih=>intro i S; rw [List.replicate_succ,q0f (s':=jrR t frm node link S) rfl,ih,List.range'_succ]; rfl
  rw [hfo,← List.range_eq_range'] at h3
  generalize (List.range N).foldl (fun S _=>jrR t frm node link S) S0=S1 at *
  subst h2 h3
  have g:=q6Q (S:=S1) (n:=tgt) (by omega)
  have hlm:(S1.map B).length=12:=by simp [hlen]
  (repeat' first|simp only [il61c,go_sem,h1,g,hlm,t12,q0b,Nat.mul_one]|with_reducible refine wX fun _=>?_|((with_reducible refine wY ?_ ?_); rfl)|fail)
end
end Go.Proofs.Ytnjaokhdeaeegaa
namespace Go.Proofs.Ytnjaokhdeaeegaa
open Go Go.Abs
theorem q6S (n:Int):ans Try.prog pol 59 [I n]=some (.fn (.func 83) [] [.ip [I n]]):=by
 refine q02 1 1 il59_eq (Nat.le_of_ble_eq_true rfl) ?_
 (repeat' first|simp only [il59c,go_sem]|with_reducible refine wX fun _=>?_|((with_reducible refine wY ?_ ?_); rfl)|fail)
def firstN (q:Nat→Bool) (n:Nat):Option Nat:=(List.range n).find? q
section
variable (hp:Option Nat→Heap) (N:Nat) (hN:∀ s,(hp s).length=N) (dd nn o:Nat)
 (hfz:∀ (s:Option Nat) (h:Heap) (q:Nat),N≤q→mapO (frzObj h (fromB q)) (hp s)=some (hp s)) (hoN:o < N) (q:Nat→Bool) (n:Nat)
include hN hfz hoN
theorem qhK (hy1:∀ (i:Nat) (Q:AV→Heap→Prop),i < n→q i=false→(∀ X',Q (.t (B true)) (hp none++X'))→oB (inl Try.prog pol (ans Try.prog pol) nn dd (.yl o) [.t (I (i:Nat))] (hp none)) Q)
  (hy2:∀ (i:Nat) (Q:AV→Heap→Prop),i < n→q i=true→(∀ X',Q (.t (B false)) (hp (some i)++X'))→oB (inl Try.prog pol (ans Try.prog pol) nn dd (.yl o) [.t (I (i:Nat))] (hp none)) Q)
  (Q:AV→Heap→Prop) (hn:n < nn) (hn2:n≤1000) (hQ:∀ v X',Q v (hp (firstN q n)++X')) :
  oB (inl Try.prog pol (ans Try.prog pol) nn (dd+1) (.fn 83) [.yl o,.t (.ip [I (n:Nat)])] (hp none)) Q:=by
 with_reducible refine q0i il83_eq ?_ ?_
 ·exact Nat.le_of_ble_eq_true rfl
 have g5:∀ (s:Option Nat) (Y:Heap),(hp s++Y).take N=hp s:=fun s Y=>by rw [List.take_append,hN,List.take_of_length_le (by rw [hN]; omega)]; simp
 have g6:∀ (s:Option Nat) (hx:Heap),mapO (frzObj hx (fromB N)) (hp s)=some (hp s):=fun s hx=>hfz s hx N (Nat.le_refl _)
 have hlen:∀ (s:Option Nat) (Y:Heap),(hp s++Y).length=N+Y.length:=fun s Y=>by simp [hN]
 have f2:decide (N≤o)=false:=decide_eq_false (by omega)
 (repeat' first|simp only [il83c,go_sem,hN]|with_reducible refine wX fun _=>?_|((with_reducible refine wY ?_ ?_); rfl)|fail)
 refine q0E n (step:=fun i (_:Unit)=>if q i=true then Ctl.out (some i) else Ctl.go ()) (fin:=fun _=>none)
  (St:=fun i _ e h=>(e 0=.yl o∧e 4=.t (I (n:Nat))∧e 5=.t (I (i:Nat)))∧h=hp none)
  (Ex:=fun s x e h=>(x=.exit 0∧s=none∧h=hp none)∨(x=.ret∧∃ X',h=hp s++X')) (s:=()) (by omega) ?_ ?_ (by omega) ?_ ?_
 ·intro i _ e h Y R hi hlt hw ⟨hs,hh⟩ hk
  subst hh
  cases hq:q i with
  | false =>
   rw [hq,if_neg (by simp),q05] at hk
   (repeat' first|simp only [il83l0_go,il83l0b,go_sem,hs,hlt,hN,hlen]|with_reducible refine wX fun _=>?_|((with_reducible refine wY ?_ ?_); rfl)|fail)
   with_reducible refine hy1 i _ hi hq ?_
   intro X'
   cases X' with
   | nil =>
    rw [List.append_nil]
    (repeat' first|simp only [il83l0_go,il83l0b,go_sem,hs,hw,hN,f2,q15]|with_reducible refine wX fun _=>?_|((with_reducible refine wY ?_ ?_); rfl)|fail)
    all_goals (refine hk _ _ ⟨?_,rfl⟩; simp only [go_sem,hs,hw])
   | cons x Y =>
    have f4:N < N+(Y.length+1):=by omega
    (repeat' first|simp only [il83l0_go,il83l0b,go_sem,hs,hw,hN,hlen,f4,g5,g6,f2,q15]|with_reducible refine wX fun _=>?_|((with_reducible refine wY ?_ ?_); rfl)|fail)
    all_goals (refine hk _ _ ⟨?_,rfl⟩; simp only [go_sem,hs,hw,f2,q15])
  | true =>
   rw [hq,if_pos rfl,q09] at hk
   (repeat' first|simp only [il83l0_go,il83l0b,go_sem,hs,hlt,hN,hlen]|with_reducible refine wX fun _=>?_|((with_reducible refine wY ?_ ?_); rfl)|fail)
   with_reducible refine hy2 i _ hi hq ?_
   intro X'
   (repeat' first|simp only [il83l0_go,il83l0b,go_sem,hs,hw,hN,hlen,g5,g6,f2,q15]|with_reducible refine wX fun _=>?_|((with_reducible refine wY ?_ ?_); rfl)|fail)
   all_goals exact hk _ _ _ (.inr ⟨rfl,X',rfl⟩)
 ·intro _ e h Y R hlt ⟨hs,hh⟩ hk
  subst hh
  (repeat' first|simp only [il83l0_go,il83l0b,go_sem,hs,hlt]|with_reducible refine wX fun _=>?_|((with_reducible refine wY ?_ ?_); rfl)|fail)
  all_goals exact hk _ _ _ (.inl ⟨rfl,rfl,rfl⟩)
 ·refine ⟨?_,rfl⟩
  simp only [go_sem]
 ·intro x e h hx
  have hf:foldC (fun i (_:Unit) (_:Unit)=>if q i=true then Ctl.out (some i) else Ctl.go ()) (fun _=>none) 0 (List.replicate n ()) ()=firstN q n:=by
   have:∀ (k i:Nat),foldC (fun i (_:Unit) (_:Unit)=>if q i=true then Ctl.out (some i) else Ctl.go ()) (fun _=>none) i (List.replicate k ()) ()=(List.range' i k).find? q:=by
    intro k
    induction k with
    | zero=>intro i; rfl
    | succ k ih =>
     intro i
     rw [List.replicate_succ,List.range'_succ,List.find?_cons]
     cases hq:q i with
     | true=>rw [q0q (r:=some i) (by rw [hq,if_pos rfl])]
     | false=>rw [q0f (s':=()) (by rw [hq,if_neg (by simp)]),ih]
   rw [this,firstN,List.range_eq_range']
  rw [hf] at hx
  rcases hx with ⟨rfl,h1,rfl⟩|⟨rfl,X',rfl⟩
  ·have:=hQ (.t (.tup [])) []
   rw [h1,List.append_nil] at this
   (repeat' first|simp only [il83c,go_sem]|with_reducible refine wX fun _=>?_|((with_reducible refine wY ?_ ?_); rfl)|fail)
   all_goals exact this
  ·have:=hQ (.t (.tup [])) X'
   (repeat' first|simp only [il83c,go_sem]|with_reducible refine wX fun _=>?_|((with_reducible refine wY ?_ ?_); rfl)|fail)
   all_goals exact this
end
noncomputable def lpFi (rf:Code × Code) (E:FEnv) (s:Option Nat):AObj:=.loop 58 (lpEnv 15 (tidyF (some [3,4,5]) E)) [9] rf.1 rf.2 false (if s.isSome=true then some .ret else none)
noncomputable def hpFi (rf:Code × Code) (E:FEnv) (s:Option Nat):Heap :=
 [.row 1 [.t (I ((s.getD 0:Nat):Int))] (if s.isSome=true then 1 else 0),.row 1 [.t (B s.isSome)] (if s.isSome=true then 1 else 0),lpFi rf E s]
def fiE (hf:T) (E:FEnv):Prop:=E 3=.t (.ip [hf])∧E 4=.ref 0 1 0 0∧E 5=.ref 1 1 0 0
theorem qhL (rf:Code × Code) (hf:T) (E:FEnv) (hE:fiE hf E) (s:Option Nat) (h:Heap) (q:Nat) (hq:3≤q):frzObj h (fromB q) (lpFi rf E s)=some (lpFi rf E s):=by
 obtain ⟨h3,h4,h5⟩:=hE
 have f0:decide (q≤0)=false:=decide_eq_false (by omega)
 have f1:decide (q≤1)=false:=decide_eq_false (by omega)
 rw [lpFi,q2G]
 simp only [go_sem,h3,h4,h5,f0,f1]
theorem qhM (rf:Code × Code) (hf:T) (E:FEnv) (hE:fiE hf E) (s:Option Nat) (h:Heap) (q:Nat) (hq:3≤q):mapO (frzObj h (fromB q)) (hpFi rf E s)=some (hpFi rf E s):=by
 have a2:∀ x:T,avoidAll (fromB q) [.t x]=true:=fun x=>by simp [avoidAll,avoid]
 simp only [hpFi,mapO,qhL rf hf E hE s h q hq,q6H (a2 _)]
theorem q6T (rf:Code × Code) (hrf:rfOf Try.prog 58 0=rf) (g:FuncId) (hg:g=60∨g=62) (caps:List T) (E:FEnv) (hE:fiE (.fn (.func g) [] caps) E) (i:Nat) (b:Bool) (kq:ans Try.prog pol g (I (i:Nat)::caps)=some (B b)) (dd nn:Nat) (Q:AV→Heap→Prop)
  (hQ:∀ X',Q (.t (B (!b))) (hpFi rf E (if b=true then some i else none)++X')) :
  oB (inl Try.prog pol (ans Try.prog pol) nn (dd+1) (.yl 2) [.t (I (i:Nat))] (hpFi rf E none)) Q:=by
 subst hrf
 obtain ⟨h3,h4,h5⟩:=hE
 have hq:=hQ
 simp only [hpFi,lpFi,List.cons_append,List.nil_append,Option.isSome_none,Bool.false_eq_true,if_false,Option.getD_none] at hq ⊢
 rcases hg with rfl|rfl
 ·cases b with
  | false =>
   simp only [Bool.false_eq_true,if_false,Bool.not_false,Option.isSome_none,Option.getD_none] at hq
   with_reducible refine oB_yl (E:=tidyF (some [3,4,5]) E) rfl rfl rfl il58r0a_eq il58r0b_eq ?_
   (repeat' first|simp only [il58r0a,il58r0b,go_sem,h3,h4,h5,kq]|with_reducible refine wX fun _=>?_|((with_reducible refine wY ?_ ?_); rfl)|fail)
   all_goals exact hq []
  | true =>
   simp only [if_true,Bool.not_true,Option.isSome_some,Option.getD_some] at hq
   with_reducible refine oB_yl (E:=tidyF (some [3,4,5]) E) rfl rfl rfl il58r0a_eq il58r0b_eq ?_
   (repeat' first|simp only [il58r0a,il58r0b,go_sem,h3,h4,h5,kq]|with_reducible refine wX fun _=>?_|((with_reducible refine wY ?_ ?_); rfl)|fail)
   all_goals exact hq []
 ·cases b with
  | false =>
   simp only [Bool.false_eq_true,if_false,Bool.not_false,Option.isSome_none,Option.getD_none] at hq
   with_reducible refine oB_yl (E:=tidyF (some [3,4,5]) E) rfl rfl rfl il58r0a_eq il58r0b_eq ?_
   (repeat' first|simp only [il58r0a,il58r0b,go_sem,h3,h4,h5,kq]|with_reducible refine wX fun _=>?_|((with_reducible refine wY ?_ ?_); rfl)|fail)
   all_goals exact hq []
  | true =>
   simp only [if_true,Bool.not_true,Option.isSome_some,Option.getD_some] at hq
   with_reducible refine oB_yl (E:=tidyF (some [3,4,5]) E) rfl rfl rfl il58r0a_eq il58r0b_eq ?_
   (repeat' first|simp only [il58r0a,il58r0b,go_sem,h3,h4,h5,kq]|with_reducible refine wX fun _=>?_|((with_reducible refine wY ?_ ?_); rfl)|fail)
   all_goals exact hq []
theorem q6U (g:FuncId) (hg:g=60∨g=62) (caps:List T) (n:Nat) (hn:n≤1000) (q:Nat→Bool) (kq:∀ i,i < n→ans Try.prog pol g (I (i:Nat)::caps)=some (B (q i))) :
  ans Try.prog pol 58 [.fn (.func 83) [] [.ip [I (n:Nat)]],.fn (.func g) [] caps]=some (.tup [I (((firstN q n).getD 0:Nat):Int),B (firstN q n).isSome]):=by
 obtain ⟨nn,hnn⟩:∃ nn,2000 < nn:=⟨2001,by omega⟩
 refine q02 nn 5 il58_eq (Nat.le_of_ble_eq_true rfl) ?_
 generalize hrf:rfOf Try.prog 58 0=rf
 simp only [il58c,hrf]
 have hfc:(T.fn (Fn.func g) [] caps).cells=[T.fn (Fn.func g) [] caps]:=rfl
 (repeat' first|simp only [List.cons_append,List.nil_append,go_sem,hfc]|with_reducible refine wX fun _=>?_|((with_reducible refine wY ?_ ?_); rfl)|fail)
 have key:∀ E:FEnv,([.row 1 [.t (I 0)] 0,.row 1 [.t (B false)] 0,.loop 58 (lpEnv 15 (tidyF (some [3,4,5]) E)) [9] rf.1 rf.2 false none]:Heap)=hpFi rf E none:=fun E=>rfl
 rw [key]
 have h23:2 < 3:=by omega
 have hn2:n < nn:=by omega
 with_reducible refine @qhK (hpFi rf _) 3 (fun s=>rfl) 4 nn 2 ?_ h23 q n ?_ ?_ _ hn2 hn ?_
 ·intro s h q' hq'
  exact qhM rf (.fn (.func g) [] caps) _ (by simp only [fiE,go_sem]) s h q' hq'
 ·intro i Q hi hqi hQ
  have k:=kq i hi
  rw [hqi] at k
  have hy:=fun E hE=>@q6T rf hrf g hg caps E hE i false k 3 nn Q
  simp only [Bool.not_false,Bool.false_eq_true,if_false] at hy
  with_reducible exact hy _ (by simp only [fiE,go_sem]) hQ
 ·intro i Q hi hqi hQ
  have k:=kq i hi
  rw [hqi] at k
  have hy:=fun E hE=>@q6T rf hrf g hg caps E hE i true k 3 nn Q
  simp only [Bool.not_true,if_true] at hy
  with_reducible exact hy _ (by simp only [fiE,go_sem]) hQ
 ·intro v X'
  have f4:2 < X'.length+1+1+1:=by omega
  cases hs:firstN q n with
  | none =>
   simp only [hpFi,lpFi,Option.isSome_none,Bool.false_eq_true,if_false,Option.getD_none,List.cons_append,List.nil_append]
   (repeat' first|simp only [List.cons_append,List.nil_append,go_sem,f4]|with_reducible refine wX fun _=>?_|((with_reducible refine wY ?_ ?_); rfl)|fail)
  | some i =>
   simp only [hpFi,lpFi,Option.isSome_some,if_true,Option.getD_some,List.cons_append,List.nil_append]
   (repeat' first|simp only [List.cons_append,List.nil_append,go_sem,f4]|with_reducible refine wX fun _=>?_|((with_reducible refine wY ?_ ?_); rfl)|fail)
end Go.Proofs.Ytnjaokhdeaeegaa
namespace Go.Proofs.Ytnjaokhdeaeegaa
open Go Go.Abs
def endP (t:Tpo) (a b:Int):Prop:=(0≤a∧a < t.nodes)∧(0≤b∧b < t.nodes)∧a≠b
instance (t:Tpo) (a b:Int):Decidable (endP t a b):=inferInstanceAs (Decidable (_∧_))
theorem q1e {c1 c2:Bool} {t:Tpo} {F G:List Int}:((srC c1 c2 t F G).map AV.t).head? = some (.t (I t.nodes)):=rfl
theorem q3T (c1 c2:Bool) (t:Tpo) (a b:Int) (h:okT t=true) (he:endP t a b):ans Try.prog pol 34 [tpT c1 c2 t,I a,I b]=some (.tup [srT c1 c2 t,I 0]):=by
 have k1:=q6J c1 c2 t h
 have hdr:List.drop 99 (zS99.map AV.t)=[]:=rfl
 have hl:=q0F (c1:=c1) (c2:=c2) (t:=t) (q0a t (frP t)) (q0a t (toP t))
 have ht:=q1J hl
 have hs:=q0C (c1:=c1) (c2:=c2) (t:=t) (F:=endsL t (frP t)) (G:=endsL t (toP t))
 obtain ⟨⟨a1,a2⟩,⟨b1,b2⟩,ab⟩:=he
 have e1:decide (a < 0)=false:=decide_eq_false (by omega)
 have e2:decide (t.nodes≤a)=false:=decide_eq_false (by omega)
 have e3:decide (b < 0)=false:=decide_eq_false (by omega)
 have e4:decide (t.nodes≤b)=false:=decide_eq_false (by omega)
 have e5:decide (a=b)=false:=decide_eq_false ab
 refine q02 1 1 il34_eq (Nat.le_of_ble_eq_true rfl) ?_
 (repeat' first|simp only [il34c,go_sem,k1,q0X,q17,hdr,ht,hl,hs,q1e,e1,e2,e3,e4,e5]|with_reducible refine wX fun _=>?_|((with_reducible refine wY ?_ ?_); rfl)|fail)
theorem q6V {c1 c2:Bool} {t:Tpo} {F G:List Int}:(List.drop 2 ((srC c1 c2 t F G).map AV.t)).head? = some (.t (.sl c2 4 (t.links.map encK))):=rfl
theorem q3U {g:Fn} {a b r:List AV}:allT (.fn g a b::r)=none:=(fun x=>x) rfl
def snFn (g:Fn):Option (List T)→Option T
 | some y=>some (.fn g [] y)
 | none=>none
theorem q3V {g:Fn} {y:List T}:snFn g (some y)=some (.fn g [] y):=(fun x=>x) rfl
theorem q3W {h:Heap} {d:Nat} {g:Fn} {b:List AV}:snap h allObj (d+1) (.fn g [] b)=snFn g (mapO (snap h allObj d) b):=by
 simp only [snap,mapO,snFn]
 cases mapO (snap h allObj d) b <;> rfl
def spN (t:Tpo) (a b:Nat) (n:Nat):Bool:=!stA t n && (!decide (((n:Nat):Int)=(a:Nat)) && (!decide (((n:Nat):Int)=(b:Nat)) && !jnB (grT t) (stA t) a t.nodes.toNat (n:Nat) (-1) b))
def spL (t:Tpo) (a b:Nat) (i:Nat):Bool:=!jnB (grT t) (stA t) a t.nodes.toNat (-1) (i:Nat) b
def sepR (t:Tpo) (a b:Nat):Int × Int × Bool:=match firstN (spN t a b) t.nodes.toNat with
 | some n=>((n:Nat),-1,true)
 | none=>match firstN (spL t a b) t.links.length with
  | some i=>(-1,(i:Nat),true)
  | none=>(0,0,false)
section
variable (c1 c2:Bool) (t:Tpo) (h:okT t=true) (a b:Nat) (ha:a < t.nodes.toNat) (hb:b < t.nodes.toNat)
include h ha hb
theorem qhN (n:Nat) (hn:n < t.nodes.toNat):ans Try.prog pol 60 [I (n:Nat),.ip (srS c1 c2 t),.ip [I (a:Nat)],.ip [I (b:Nat)]]=some (B (spN t a b n)):=by
 obtain ⟨z1,z2,z3⟩:=q0d h
 have hl:=q0F (c1:=c1) (c2:=c2) (t:=t) (q0a t (frP t)) (q0a t (toP t))
 have htk:List.take 99 (srS c1 c2 t)=srS c1 c2 t:=List.take_of_length_le (by rw [hl]; exact Nat.le_refl _)
 have gst:(t.station.map B)[n]? = some (B (stA t n)):=(q1H t z2 ⟨by omega,by omega⟩:(t.station.map B)[(((n):Nat):Int).toNat]? = _∧_).1
 have hst:n < t.station.length:=by omega
 have kj:=q6R c1 c2 t h a ha (n:Nat) (-1) b hb
 unfold spN
 generalize jnB (grT t) (stA t) a t.nodes.toNat ((n:Nat):Int) (-1) b=j at *
 generalize stA t n=s at *
 generalize hd1:decide (((n:Nat):Int)=(a:Nat))=d1 at *
 generalize hd2:decide (((n:Nat):Int)=(b:Nat))=d2 at *
 cases s <;> cases d1 <;> cases d2
 all_goals refine q02 1 1 il60_eq (Nat.le_of_ble_eq_true rfl) ?_
 all_goals ((repeat' first|simp only [il60c,go_sem,hl,htk,gst,hst,kj,hd1,hd2,srC_1,q0b,List.drop_drop]|with_reducible refine wX fun _=>?_|((with_reducible refine wY ?_ ?_); rfl)|fail))
theorem qhO (i:Nat):ans Try.prog pol 62 [I (i:Nat),.ip (srS c1 c2 t),.ip [I (a:Nat)],.ip [I (b:Nat)]]=some (B (spL t a b i)):=by
 have hl:=q0F (c1:=c1) (c2:=c2) (t:=t) (q0a t (frP t)) (q0a t (toP t))
 have htk:List.take 99 (srS c1 c2 t)=srS c1 c2 t:=List.take_of_length_le (by rw [hl]; exact Nat.le_refl _)
 have kj:=q6R c1 c2 t h a ha (-1) (i:Nat) b hb
 unfold spL
 generalize jnB (grT t) (stA t) a t.nodes.toNat (-1) ((i:Nat):Int) b=j at *
 refine q02 1 1 il62_eq (Nat.le_of_ble_eq_true rfl) ?_
 (repeat' first|simp only [il62c,go_sem,hl,htk,kj]|with_reducible refine wX fun _=>?_|((with_reducible refine wY ?_ ?_); rfl)|fail)
end
theorem qhP (c1 c2:Bool) (t:Tpo) (a b:Nat) (h:okT t=true) (he:endP t (a:Nat) (b:Nat)):ans Try.prog pol 24 [tpT c1 c2 t,I (a:Nat),I (b:Nat)]=some (.tup [.agg [I (sepR t a b).1,I (sepR t a b).2.1],B (sepR t a b).2.2,I 0]):=by
 obtain ⟨z1,z2,z3⟩:=q0d h
 have hab:=he
 obtain ⟨⟨a1,a2⟩,⟨b1,b2⟩,_⟩:=hab
 have k1:=q3T c1 c2 t a b h he
 have hdr:List.drop 99 (zS99.map AV.t)=[]:=rfl
 have hl:=q0F (c1:=c1) (c2:=c2) (t:=t) (q0a t (frP t)) (q0a t (toP t))
 have ht:=q1J hl
 have hs:=q0C (c1:=c1) (c2:=c2) (t:=t) (F:=endsL t (frP t)) (G:=endsL t (toP t))
 have hNn:((t.nodes.toNat:Nat):Int)=t.nodes:=by omega
 have kn1:=q6S t.nodes
 have kn2:=q6S ((t.links.length:Nat):Int)
 have kf1:=q6U 60 (.inl rfl) [.ip (srS c1 c2 t),.ip [I (a:Nat)],.ip [I (b:Nat)]] t.nodes.toNat (by omega) (spN t a b) (fun n hn=>qhN c1 c2 t h a b (by omega) (by omega) n hn)
 have kf2:=q6U 62 (.inr rfl) [.ip (srS c1 c2 t),.ip [I (a:Nat)],.ip [I (b:Nat)]] t.links.length (by omega) (spL t a b) (fun i _=>qhO c1 c2 t h a b (by omega) (by omega) i)
 rw [hNn] at kf1
 unfold sepR
 cases h1:firstN (spN t a b) t.nodes.toNat with
 | some n =>
  rw [h1] at kf1
  simp only [Option.getD_some,Option.isSome_some] at kf1
  refine q02 1 1 il24_eq (Nat.le_of_ble_eq_true rfl) ?_
  (repeat' first|simp only [il24c,go_sem,k1,q0X,q17,hdr,ht,hl,hs,q1e,kn1,kf1,q3U,q3W,q3V]|with_reducible refine wX fun _=>?_|((with_reducible refine wY ?_ ?_); rfl)|fail)
 | none =>
  rw [h1] at kf1
  simp only [Option.getD_none,Option.isSome_none] at kf1
  cases h2:firstN (spL t a b) t.links.length with
  | some n =>
   rw [h2] at kf2
   simp only [Option.getD_some,Option.isSome_some] at kf2
   refine q02 1 1 il24_eq (Nat.le_of_ble_eq_true rfl) ?_
   (repeat' first|simp only [il24c,go_sem,k1,q0X,q17,hdr,ht,hl,hs,q1e,kn1,kf1,kn2,kf2,q6V,q3U,q3W,q3V]|with_reducible refine wX fun _=>?_|((with_reducible refine wY ?_ ?_); rfl)|fail)
  | none =>
   rw [h2] at kf2
   simp only [Option.getD_none,Option.isSome_none] at kf2
   refine q02 1 1 il24_eq (Nat.le_of_ble_eq_true rfl) ?_
   (repeat' first|simp only [il24c,go_sem,k1,q0X,q17,hdr,ht,hl,hs,q1e,kn1,kf1,kn2,kf2,q6V,q3U,q3W,q3V]|with_reducible refine wX fun _=>?_|((with_reducible refine wY ?_ ?_); rfl)|fail)
end Go.Proofs.Ytnjaokhdeaeegaa
namespace Go.Proofs.Ytnjaokhdeaeegaa
open Go Go.Abs
def allI {α:Type} (f:Nat→α→Bool):Nat→List α→Bool
 | _,[]=>true
 | i,x::l=>f i x && allI f (i+1) l
theorem q6W {α:Type} {f:Nat→α→Bool}:∀ (l:List α) (i:Nat) (u:Unit),foldC (fun i x (_:Unit)=>if f i x=true then Ctl.go () else Ctl.out false) (fun _=>true) i l u=allI f i l:=by
 intro l
 induction l with
 | nil=>intro i u; rfl
 | cons x l ih =>
  intro i u
  rw [allI]
  cases h:f i x with
  | true=>rw [q0f (s':=()) (by rw [h,if_pos rfl]),ih,Bool.true_and]
  | false=>rw [q0q (r:=false) (by rw [h,if_neg (by simp)]),Bool.false_and]
theorem q2L {α:Type} {f:Nat→α→Bool}:∀ {l:List α} {i:Nat},allI f i l=true↔∀ k x,l[k]? = some x→f (i+k) x=true:=by
 intro l
 induction l with
 | nil=>intro i; simp [allI]
 | cons x l ih =>
  intro i
  rw [allI,Bool.and_eq_true,ih]
  constructor
  ·rintro ⟨h1,h2⟩ k y hy
   cases k with
   | zero=>simp at hy; subst hy; exact h1
   | succ k=>rw [show i+(k+1)=i+1+k by omega]; exact h2 k y (by simpa using hy)
  ·intro h
   refine ⟨h 0 x rfl,fun k y hy=>?_⟩
   rw [show i+1+k=i+(k+1) by omega]
   exact h (k+1) y (by simpa using hy)
theorem qjH {α:Type} {l:List α} {x:α}:x∈l.dropLast↔∃ i,i+1 < l.length∧l[i]? = some x:=by
 rw [List.mem_iff_getElem?]
 constructor
 ·rintro ⟨i,hi⟩
  have hlt:=(List.getElem?_eq_some_iff.1 hi).1
  rw [List.length_dropLast] at hlt
  refine ⟨i,by omega,?_⟩
  rw [List.getElem?_dropLast,if_pos (by omega)] at hi
  exact hi
 ·rintro ⟨i,h1,h2⟩
  refine ⟨i,?_⟩
  rw [List.getElem?_dropLast,if_pos (by omega)]
  exact h2
def apI (t:Tpo) (m n:Nat) (i p j q:Nat):Bool:=!(decide (((p / 2:Nat):Int)=((q / 2:Nat):Int)) || ((decide (((i:Nat):Int) < ((m:Nat):Int) - 1) && decide (((j:Nat):Int) < ((n:Nat):Int) - 1)) && decide (((toN t p:Nat):Int)=((toN t q:Nat):Int))))
def apW (t:Tpo) (a b:List Nat):Bool:=allI (fun i p=>allI (fun j q=>apI t a.length b.length i p j q) 0 b) 0 a
theorem qhQ (t:Tpo) (a b:List Nat):apW t a b=apB (grT t) a b:=by
 rw [Bool.eq_iff_iff,apB,decide_eq_true_eq,apW,q2L]
 simp only [q2L,Nat.zero_add,apI,Bool.not_eq_true',Bool.or_eq_false_iff,Bool.and_eq_false_iff,decide_eq_false_iff_not]
 constructor
 ·intro h
  refine ⟨fun p hp q hq=>?_,fun n hn hm=>?_⟩
  ·obtain ⟨i,hi⟩:=List.mem_iff_getElem?.1 hp
   obtain ⟨j,hj⟩:=List.mem_iff_getElem?.1 hq
   have:=(h i p hi j q hj).1
   omega
  ·obtain ⟨p,hp,rfl⟩:=List.mem_map.1 hn
   obtain ⟨q,hq,e⟩:=List.mem_map.1 hm
   obtain ⟨i,i1,i2⟩:=qjH.1 hp
   obtain ⟨j,j1,j2⟩:=qjH.1 hq
   have e:toN t q=toN t p:=e
   rcases (h i p i2 j q j2).2 with (k|k)|k
   ·omega
   ·omega
   ·omega
 ·rintro ⟨h1,h2⟩ i p hp j q hq
  refine ⟨fun e=>h1 p (List.mem_of_getElem? hp) q (List.mem_of_getElem? hq) (by omega),?_⟩
  by_cases k1:i+1 < a.length
  ·by_cases k2:j+1 < b.length
   ·right
    intro e
    refine h2 (toN t p) (List.mem_map_of_mem (f:=(grT t).to) (qjH.2 ⟨i,k1,hp⟩)) ?_
    have e:toN t p=toN t q:=by omega
    rw [e]
    exact List.mem_map_of_mem (f:=(grT t).to) (qjH.2 ⟨j,k2,hq⟩)
   ·left; right; omega
  ·left; left; omega
section
variable (c1 c2 ca cb:Bool) (t:Tpo) (h:okT t=true) (a b:List Nat) (ha:ptP t a) (hb:ptP t b) (hla:a.length≤1000) (hlb:b.length≤1000)
include h ha hb hla hlb
theorem qhR (i p:Nat) (hi:i < a.length) (hp:p < 2*t.links.length) (x12 x13 x14:T)
  (J:Inl) (nn:Nat) (hn:1000 < nn) (R:Xit→FEnv→Heap→Prop) (e:FEnv)
  (he:e 1=.t (.sl ca 1 (ptL a))∧e 2=.t (.sl cb 1 (ptL b))∧e 3=.t (.ip (srS c1 c2 t))∧e 7=.t (I (i:Nat))∧e 8=.t (I (p:Nat))∧e 12=.t x12∧e 13=.t x13∧e 14=.t x14∧e 19=.t (.sl cb 1 (ptL b))∧e 20=.t (I (b.length:Nat))∧e 21=.t (I 0))
  (hR1:allI (fun j q=>apI t a.length b.length i p j q) 0 b=true→∀ e,(e 1=.t (.sl ca 1 (ptL a))∧e 2=.t (.sl cb 1 (ptL b))∧e 3=.t (.ip (srS c1 c2 t))∧e 12=.t x12∧e 13=.t x13∧e 14=.t x14)→R (.exit 2) e [])
  (hR2:allI (fun j q=>apI t a.length b.length i p j q) 0 b=false→∀ e hh,e 6=.t (B false)→R .ret e hh) :
  wpIter 0 (some [1,2,3,7,8,12,13,14,19,20,21]) (wc Try.prog pol (ans Try.prog pol) J nn 46 il46l0) R nn e []:=by
 obtain ⟨z1,z2,z3⟩:=q0d h
 have l1:=q0x a
 have l2:=q0x b
 obtain ⟨p1,p2,n1,n2,_⟩:=q0l h hp
 have gP:=q1t (c1:=c1) (c2:=c2) (t:=t) (q0a t (frP t)) (q0Q (f:=toP t) z3 hp)
 rw [p2] at gP
 have p48:p < 48:=by omega
 have vp:=q16 hp (show t.links.length≤1000 by omega)
 have wa:IntKind.i64.wrap (((a.length:Nat):Int) - 1)=((a.length:Nat):Int) - 1:=q00 (by omega) (by omega)
 have wb:IntKind.i64.wrap (((b.length:Nat):Int) - 1)=((b.length:Nat):Int) - 1:=q00 (by omega) (by omega)
 refine q0h b (fun q=>I (ofN q)) (step:=fun j q (_:Unit)=>if apI t a.length b.length i p j q=true then Ctl.go () else Ctl.out false) (fin:=fun _=>true)
  (St:=fun j _ e h'=>(e 1=.t (.sl ca 1 (ptL a))∧e 2=.t (.sl cb 1 (ptL b))∧e 3=.t (.ip (srS c1 c2 t))∧e 7=.t (I (i:Nat))∧e 8=.t (I (p:Nat))∧e 12=.t x12∧e 13=.t x13∧e 14=.t x14∧e 19=.t (.sl cb 1 (ptL b))∧e 20=.t (I (b.length:Nat))∧e 21=.t (I (j:Nat)))∧h'=[])
  (Ex:=fun r x e h'=>r=true∧x=.exit 2∧(e 1=.t (.sl ca 1 (ptL a))∧e 2=.t (.sl cb 1 (ptL b))∧e 3=.t (.ip (srS c1 c2 t))∧e 12=.t x12∧e 13=.t x13∧e 14=.t x14)∧h'=[]∨r=false∧x=.ret∧e 6=.t (B false)) (s:=()) (by omega) ?_ ?_ (by omega) ⟨he,rfl⟩ ?_
 ·intro j q _ e h' Y R' hm hj hx _ hlt hw ⟨hs,hh⟩ hk
  subst hh
  have hq:=hb q hm
  obtain ⟨q1,q2,m1,m2,_⟩:=q0l h hq
  have gQ:=q1t (c1:=c1) (c2:=c2) (t:=t) (q0a t (frP t)) (q0Q (f:=toP t) z3 hq)
  rw [q2] at gQ
  have q48:q < 48:=by omega
  have vq:=q16 hq (show t.links.length≤1000 by omega)
  have gq:=q0Y hx
  unfold apI at hk
  generalize hd1:decide (((p / 2:Nat):Int)=((q / 2:Nat):Int))=d1 at *
  generalize hd2:decide (((i:Nat):Int) < ((a.length:Nat):Int) - 1)=d2 at *
  generalize hd3:decide (((j:Nat):Int) < ((b.length:Nat):Int) - 1)=d3 at *
  generalize hd4:decide (((toN t p:Nat):Int)=((toN t q:Nat):Int))=d4 at *
  cases d1 <;> cases d2 <;> cases d3 <;> cases d4
  all_goals simp only [Bool.true_or,Bool.false_or,Bool.and_true,Bool.and_false,Bool.not_true,Bool.not_false,Bool.false_eq_true,if_true,if_false,q05,q09] at hk
  all_goals ((repeat' first|simp only [il46l0_go,il46l0b,go_sem,hs,hlt,hw,gq,gP,gQ,p48,q48,vp,vq,wa,wb,l1,l2,hd1,hd2,hd3,hd4,q0b,Nat.mul_one,List.drop_drop]|with_reducible refine wX fun _=>?_|((with_reducible refine wY ?_ ?_); rfl)|fail))
  all_goals first
   | (refine hk _ _ ⟨?_,rfl⟩; simp only [go_sem,hs,hw]; done)
   | (refine hk _ _ _ (.inr ⟨by first|rfl|trivial,rfl,?_⟩); simp only [go_sem])
 ·intro _ e h' Y R' hlt ⟨hs,hh⟩ hk
  subst hh
  (repeat' first|simp only [il46l0_go,il46l0b,go_sem,hs,hlt]|with_reducible refine wX fun _=>?_|((with_reducible refine wY ?_ ?_); rfl)|fail)
  all_goals (refine hk _ _ _ (.inl ⟨rfl,rfl,?_,rfl⟩); simp only [go_sem,hs])
 ·intro x e h' hx
  rw [q6W] at hx
  rcases hx with ⟨h1,rfl,h2,rfl⟩|⟨h1,rfl,h2⟩
  ·exact hR1 h1 _ h2
  ·exact hR2 h1 _ _ h2
theorem qhS:ans Try.prog pol 46 [srT c1 c2 t,.sl ca 1 (ptL a),.sl cb 1 (ptL b)]=some (B (apB (grT t) a b)):=by
 rw [← qhQ,apW]
 have hsr:=q0C (c1:=c1) (c2:=c2) (t:=t) (F:=endsL t (frP t)) (G:=endsL t (toP t))
 have l1:=q0x a
 have l2:=q0x b
 obtain ⟨nn,hn⟩:∃ nn,1000 < nn:=⟨1001,by omega⟩
 refine q02 nn 1 il46_eq (Nat.le_of_ble_eq_true rfl) ?_
 (repeat' first|simp only [il46c,go_sem,hsr,l1]|with_reducible refine wX fun _=>?_|((with_reducible refine wY ?_ ?_); rfl)|fail)
 refine q0h a (fun p=>I (ofN p)) (step:=fun i p (_:Unit)=>if allI (fun j q=>apI t a.length b.length i p j q) 0 b=true then Ctl.go () else Ctl.out false) (fin:=fun _=>true)
  (St:=fun i _ e h'=>(e 1=.t (.sl ca 1 (ptL a))∧e 2=.t (.sl cb 1 (ptL b))∧e 3=.t (.ip (srS c1 c2 t))∧e 12=.t (.sl ca 1 (ptL a))∧e 13=.t (I (a.length:Nat))∧e 14=.t (I (i:Nat)))∧h'=[])
  (Ex:=fun r x e h'=>r=true∧x=.exit 0∧h'=[]∨r=false∧x=.ret∧e 6=.t (B false)) (s:=()) (by omega) ?_ ?_ (by omega) ?_ ?_
 ·intro i p _ e h' Y R' hm hi hx _ hlt hw ⟨hs,hh⟩ hk
  subst hh
  have gp:=q0Y hx
  (repeat' first|simp only [il46l1_go,il46l1b,go_sem,hs,hlt,gp,l1,l2]|with_reducible refine wX fun _=>?_|((with_reducible refine wY ?_ ?_); rfl)|fail)
  refine qhR c1 c2 ca cb t h a b ha hb hla hlb i p hi (ha p hm) (.sl ca 1 (ptL a)) (I (a.length:Nat)) (I (i:Nat)) _ nn hn _ _ (by simp only [go_sem,hs]) ?_ ?_
  ·intro ht e1 he1
   rw [if_pos ht,q05] at hk
   (repeat' first|simp only [il46l1_go,il46l1b,go_sem,he1,hw]|with_reducible refine wX fun _=>?_|((with_reducible refine wY ?_ ?_); rfl)|fail)
   all_goals (refine hk _ _ ⟨?_,rfl⟩; simp only [go_sem,he1,hw])
  ·intro hf e1 hh he1
   rw [if_neg (by rw [hf]; simp),q09] at hk
   (repeat' first|simp only [il46l1_go,il46l1b,go_sem,he1]|with_reducible refine wX fun _=>?_|((with_reducible refine wY ?_ ?_); rfl)|fail)
   all_goals (refine hk _ _ _ (.inr ⟨rfl,rfl,?_⟩); simp only [go_sem,he1])
 ·intro _ e h' Y R' hlt ⟨hs,hh⟩ hk
  subst hh
  (repeat' first|simp only [il46l1_go,il46l1b,go_sem,hs,hlt]|with_reducible refine wX fun _=>?_|((with_reducible refine wY ?_ ?_); rfl)|fail)
  all_goals exact hk _ _ _ (.inl ⟨rfl,rfl,rfl⟩)
 ·refine ⟨?_,rfl⟩
  simp only [go_sem]
 ·intro x e h' hx
  rw [q6W] at hx
  rcases hx with ⟨h1,rfl,rfl⟩|⟨h1,rfl,h2⟩
  ·rw [h1]
   (repeat' first|simp only [il46c,go_sem]|with_reducible refine wX fun _=>?_|((with_reducible refine wY ?_ ?_); rfl)|fail)
  ·rw [h1]
   (repeat' first|simp only [il46c,go_sem,h2]|with_reducible refine wX fun _=>?_|((with_reducible refine wY ?_ ?_); rfl)|fail)
end
end Go.Proofs.Ytnjaokhdeaeegaa
namespace Go.Proofs.Ytnjaokhdeaeegaa
open Go Go.Abs
def ndL (t:Tpo) (r:List Nat):List Int:=frP t (r[0]?.getD 0)::r.map (toP t)
theorem q6X (t:Tpo) (r:List Nat):(ndL t r).length=r.length+1:=by simp [ndL]
section
variable (c1 c2 c:Bool) (t:Tpo) (h:okT t=true) (r:List Nat) (hr:ptP t r) (hl:r.length≤1000)
include h hr hl
theorem q3X (hne:r≠[]):ans Try.prog pol 28 [tpT c1 c2 t,.sl c 1 (ptL r)]=some (.sl false 1 ((ndL t r).map I)):=by
 obtain ⟨z1,z2,z3⟩:=q0d h
 have l1:=q0x r
 have h0:0 < r.length:=List.length_pos_iff.2 hne
 have g0:(ptL r)[0]? = some (I (((r[0]?.getD 0:Nat)):Int)):=q0Y (by rw [List.getElem?_eq_getElem h0]; rfl)
 have hp0:r[0]?.getD 0 < 2*t.links.length:=by rw [List.getElem?_eq_getElem h0]; exact hr _ (List.getElem_mem h0)
 have k0:=q3P c1 c2 t (r[0]?.getD 0) hp0 (by omega)
 unfold ndL
 generalize r[0]?.getD 0=p0 at *
 generalize frP t p0=A at *
 obtain ⟨L,hL⟩:∃ L,L=A::r.map (toP t):=⟨_,rfl⟩
 rw [← hL]
 obtain ⟨nn,hn⟩:∃ nn,1000 < nn:=⟨1001,by omega⟩
 refine q02 nn 1 il28_eq (Nat.le_of_ble_eq_true rfl) ?_
 (repeat' first|simp only [il28c,go_sem,k0,g0,h0,l1]|with_reducible refine wX fun _=>?_|((with_reducible refine wY ?_ ?_); rfl)|fail)
 refine q0h r (fun p=>I (ofN p)) (step:=fun _ p (o:List Int)=>.go (o++[toP t p])) (fin:=id)
  (St:=fun i o e h'=>(e 1=.t (.sl c 1 (ptL r))∧e 2=.t (.ip (tpC c1 c2 t))∧e 5=.ms 0 o.length 0 o.length 1 false∧e 6=.t (I (i:Nat)))∧o.length=i+1∧h'=[rowG 1 I o])
  (Ex:=fun o x e h'=>e 5=.ms 0 o.length 0 o.length 1 false∧x=.exit 0∧h'=[rowG 1 I o]) (s:=[A]) (by omega) ?_ ?_ (by omega) ?_ ?_
 ·intro i p o e h' Y R hm hi hx _ hlt hw ⟨hs,ho,hh⟩ hk
  subst hh
  simp only [q05] at hk
  have gp:=q0Y hx
  have kT:=q3Q c1 c2 t p (hr p hm) (by omega)
  have hroom:(o.length+1)*8≤roomB:=q0I (by omega) (by omega)
  have is1:rowIs 1 o.length (some (rowG 1 I o)):=q26
  generalize toP t p=C at *
  (repeat' first|simp only [il28l0_go,il28l0b,go_sem,hs,hlt,hw,gp,kT,l1,hroom,is1,q0V,q0W,q6s,qh6]|with_reducible refine wX fun _=>?_|((with_reducible refine wY ?_ ?_); rfl)|fail)
  all_goals (refine hk _ _ ⟨?_,by simp [ho],?_⟩ <;> simp only [go_sem,hs,hw,List.length_append])
 ·intro o e h' Y R hlt ⟨hs,ho,hh⟩ hk
  subst hh
  (repeat' first|simp only [il28l0_go,il28l0b,go_sem,hs,hlt,l1]|with_reducible refine wX fun _=>?_|((with_reducible refine wY ?_ ?_); rfl)|fail)
  all_goals (refine hk _ _ _ ⟨?_,rfl,rfl⟩; simp only [go_sem,hs,id])
 ·refine ⟨?_,rfl,rfl⟩
  simp only [go_sem]
 ·intro x e h' ⟨h1,h2,h3⟩
  have hf:∀ (l:List Nat) (i:Nat) (o:List Int),foldC (ρ:=List Int) (fun _ p o=>Ctl.go (o++[toP t p])) id i l o=o++l.map (toP t):=by
   intro l
   induction l with
   | nil=>intro i o; simp [foldC]
   | cons x l ih=>intro i o; rw [q0f (s':=o++[toP t x]) rfl,ih]; simp
  rw [hf,List.singleton_append,← hL] at h1 h3
  subst h2 h3
  have is1:rowIs 1 L.length (some (rowG 1 I L)):=q26
  (repeat' first|simp only [il28c,go_sem,h1,is1,q0V,q0W]|with_reducible refine wX fun _=>?_|((with_reducible refine wY ?_ ?_); rfl)|fail)
end
section
variable (c1 c2 c c':Bool) (t:Tpo) (h:okT t=true) (a b:List Nat) (ha:ptP t a) (hb:ptP t b) (hla:a.length≤1000) (hlb:b.length≤1000)
include h ha hb hla hlb
end
end Go.Proofs.Ytnjaokhdeaeegaa
namespace Go.Proofs.Ytnjaokhdeaeegaa
open Go Go.Abs
theorem qhT (x:Int):∀ (l:List Int) (i:Nat),foldC (fun _ y (_:Unit)=>if y=x then Ctl.out true else Ctl.go ()) (fun _=>false) i l ()=decide (x∈l):=by
 intro l
 induction l with
 | nil=>intro i; rfl
 | cons y l ih =>
  intro i
  by_cases h:y=x
  ·rw [q0q (r:=true) (by rw [if_pos h]),decide_eq_true (by simp [h])]
  ·rw [q0f (s':=()) (by rw [if_neg h]),ih]
   rw [Bool.eq_iff_iff]; simp [Ne.symm h]
theorem q6Y (c:Bool) (l:List Int) (x:Int) (hl:l.length≤2000):ans Try.prog pol 55 [.sl c 1 (l.map I),I x]=some (B (decide (x∈l))):=by
 have l1:(l.map I).length=l.length:=List.length_map _
 obtain ⟨nn,hn⟩:∃ nn,2000 < nn:=⟨2001,by omega⟩
 refine q02 nn 1 il55_eq (Nat.le_of_ble_eq_true rfl) ?_
 (repeat' first|simp only [il55c,go_sem]|with_reducible refine wX fun _=>?_|((with_reducible refine wY ?_ ?_); rfl)|fail)
 refine q0h l I (step:=fun _ y (_:Unit)=>if y=x then Ctl.out true else Ctl.go ()) (fin:=fun _=>false)
  (St:=fun i _ e h'=>(e 0=.t (.sl c 1 (l.map I))∧e 1=.t (I x)∧e 5=.t (I (i:Nat)))∧h'=[])
  (Ex:=fun r q e h'=>r=false∧q=.exit 0∧h'=[]∨r=true∧q=.ret∧e 4=.t (B true)) (s:=()) (by omega) ?_ ?_ (by omega) ?_ ?_
 ·intro i y _ e h' Y R hm hi hx _ hlt hw ⟨hs,hh⟩ hk
  subst hh
  have gy:(l.map I)[i]? = some (I y):=by rw [List.getElem?_map,hx]; rfl
  by_cases hyx:y=x
  ·have d1:=decide_eq_true hyx
   simp only [if_pos hyx,q09] at hk
   (repeat' first|simp only [il55l0_go,il55l0b,go_sem,hs,hlt,hw,gy,l1,d1]|with_reducible refine wX fun _=>?_|((with_reducible refine wY ?_ ?_); rfl)|fail)
   all_goals (refine hk _ _ _ (.inr ⟨by first|rfl|trivial,rfl,?_⟩); simp only [go_sem])
  ·have d1:=decide_eq_false hyx
   simp only [if_neg hyx,q05] at hk
   (repeat' first|simp only [il55l0_go,il55l0b,go_sem,hs,hlt,hw,gy,l1,d1]|with_reducible refine wX fun _=>?_|((with_reducible refine wY ?_ ?_); rfl)|fail)
   all_goals (refine hk _ _ ⟨?_,rfl⟩; simp only [go_sem,hs,hw])
 ·intro _ e h' Y R hlt ⟨hs,hh⟩ hk
  subst hh
  (repeat' first|simp only [il55l0_go,il55l0b,go_sem,hs,hlt,l1]|with_reducible refine wX fun _=>?_|((with_reducible refine wY ?_ ?_); rfl)|fail)
  all_goals exact hk _ _ _ (.inl ⟨by first|rfl|trivial,rfl,rfl⟩)
 ·refine ⟨?_,rfl⟩
  simp only [go_sem]
 ·intro q e h' hx
  rw [qhT] at hx
  rcases hx with ⟨h1,rfl,rfl⟩|⟨h1,rfl,h2⟩
  ·rw [h1]
   (repeat' first|simp only [il55c,go_sem]|with_reducible refine wX fun _=>?_|((with_reducible refine wY ?_ ?_); rfl)|fail)
  ·rw [h1]
   (repeat' first|simp only [il55c,go_sem,h2]|with_reducible refine wX fun _=>?_|((with_reducible refine wY ?_ ?_); rfl)|fail)
end Go.Proofs.Ytnjaokhdeaeegaa
namespace Go.Proofs.Ytnjaokhdeaeegaa
open Go Go.Abs
section
variable (c1 c2 ca cb:Bool) (t:Tpo) (h:okT t=true) (a b:List Nat) (ha:ptP t a) (hb:ptP t b) (hla:a.length≤1000) (hlb:b.length≤1000)
include h ha hb hla hlb
end
end Go.Proofs.Ytnjaokhdeaeegaa
namespace Go.Proofs.Ytnjaokhdeaeegaa
open Go Go.Abs
def avI (t:Tpo) (N L:List Int) (r:List Nat) (i p:Nat):Bool:=!(decide (((p / 2:Nat):Int)∈L) || (decide (((i:Nat):Int) > 0) && decide ((ndL t r)[i]?.getD 0∈N)))
def avR (t:Tpo) (N L:List Int) (r:List Nat):Bool:=allI (avI t N L r) 0 r
section
variable (c1 c2 c d1 d2:Bool) (t:Tpo) (h:okT t=true) (N L:List Int) (r:List Nat) (hr:ptP t r) (hl:r.length≤1000) (hN:N.length≤1000) (hL:L.length≤1000)
include h hr hl hN hL
end
end Go.Proofs.Ytnjaokhdeaeegaa
namespace Go.Proofs.Ytnjaokhdeaeegaa
open Go Go.Abs
def rtP (t:Tpo) (l:List (List Nat)):Prop:=∀ r∈l,r≠[]∧ptP t r∧r.length≤8
section
variable (c1 c2 c:Bool) (t:Tpo) (h:okT t=true) (l:List (List Nat)) (hl:rtP t l) (hll:l.length < 1000000000000)
include h hl hll
end
end Go.Proofs.Ytnjaokhdeaeegaa
namespace Go.Proofs.Ytnjaokhdeaeegaa
open Go Go.Abs
section
variable (c1 c2 c:Bool) (t:Tpo) (h:okT t=true) (l:List (List Nat)) (hl:rtP t l) (hll:l.length < 1000000000000)
include h hl hll
end
end Go.Proofs.Ytnjaokhdeaeegaa
namespace Go.Proofs.Ytnjaokhdeaeegaa
open Go Go.Abs
theorem q6Z {t:Tpo} (h:okT t=true) (n:Nat):((List.range (2*t.links.length)).filter fun p=>decide (frN t p=n)).length≤t.links.length:=by
 have key:∀ m,m≤t.links.length→((List.range (2*m)).filter fun p=>decide (frN t p=n)).length≤m:=by
  intro m
  induction m with
  | zero=>intro _; simp
  | succ m ih =>
   intro hm
   have ih:=ih (by omega)
   have e:2*(m+1)=2*m+1+1:=by omega
   rw [e,List.range_succ,List.range_succ,List.filter_append,List.filter_append,List.length_append,List.length_append]
   have h0:=q0l h (p:=2*m) (by omega)
   have h1:=q0l h (p:=2*m+1) (by omega)
   have hne:frN t (2*m)≠frN t (2*m+1):=by
    have hb:=gr_bk (t:=t) (2*m) (2*m+1) (by show _ < 2*t.links.length; omega) (by show _ < 2*t.links.length; omega) (by omega)
    rcases hb with hb|⟨hb,hc⟩
    ·omega
    ·have hb:frN t (2*m)=toN t (2*m+1):=hb
     omega
   by_cases k:frN t (2*m)=n
   ·have k2:¬ frN t (2*m+1)=n:=by omega
    rw [List.filter_cons_of_pos (by simpa using k),List.filter_cons_of_neg (by simpa using k2)]
    simp only [List.filter_nil,List.length_cons,List.length_nil]
    omega
   ·rw [List.filter_cons_of_neg (by simpa using k)]
    have:(List.filter (fun p=>decide (frN t p=n)) [2*m+1]).length≤1:=by
     have:=List.length_filter_le (fun p=>decide (frN t p=n)) [2*m+1]
     simpa using this
    simp only [List.filter_nil,List.length_nil]
    omega
 exact key _ (Nat.le_refl _)
theorem q70 {α β:Type} {q:α→Bool} {f:α→List β} {M:Nat}:∀ {l:List α},(∀ x∈l,q x=false→f x=[])→(∀ x∈l,(f x).length≤M)→(l.flatMap f).length≤(l.filter q).length*M:=by
 intro l
 induction l with
 | nil=>intro _ _; simp
 | cons x l ih =>
  intro h1 h2
  have ih:=ih (fun y hy=>h1 y (List.mem_cons_of_mem _ hy)) (fun y hy=>h2 y (List.mem_cons_of_mem _ hy))
  rw [List.flatMap_cons,List.length_append]
  have g1:=h1 x (by simp)
  have g2:=h2 x (by simp)
  cases hq:q x with
  | true =>
   rw [List.filter_cons_of_pos hq,List.length_cons,Nat.add_mul,Nat.one_mul]
   omega
  | false =>
   rw [List.filter_cons_of_neg (by simp [hq]),g1 hq]
   simpa using ih
theorem qhU {t:Tpo} (h:okT t=true) (sta:Nat→Bool) (frm tgt:Nat):∀ (k:Nat) (r:List Nat),(grownL (grT t) sta frm tgt k r).length≤24 ^ k:=by
 obtain ⟨z1,z2,z3⟩:=q0d h
 intro k
 induction k with
 | zero=>intro r; rw [grownL]; split <;> simp
 | succ k ih =>
  intro r
  have hp:1≤24 ^ (k+1):=Nat.pow_pos (by omega)
  rw [grownL]
  split
  ·simpa using hp
  ·split
   ·simp
   ·refine Nat.le_trans (q70 (q:=fun p=>decide (frN t p=atE (grT t) frm r)) (M:=24 ^ k) ?_ ?_) ?_
    ·intro p _ hq
     rw [if_neg]
     rintro ⟨k1,_⟩
     rw [decide_eq_false_iff_not] at hq
     exact hq k1
    ·intro p _
     split
     ·exact ih _
     ·simp
    ·have:=q6Z h (atE (grT t) frm r)
     rw [Nat.pow_succ,Nat.mul_comm (24 ^ k)]
     exact Nat.mul_le_mul_right _ (Nat.le_trans this z3)
theorem q3Y {t:Tpo} (h:okT t=true) (sta:Nat→Bool) (frm tgt:Nat):(routesL (grT t) sta frm tgt).length≤24 ^ 8:=by
 obtain ⟨z1,z2,z3⟩:=q0d h
 rw [routesL]
 refine Nat.le_trans (q70 (q:=fun _=>true) (M:=24 ^ 7) (fun _ _ k=>by cases k) (fun p _=>qhU h sta frm tgt 7 [p])) ?_
 rw [List.filter_eq_self.2 (fun _ _=>rfl)]
 have:=q6Z h frm
 exact Nat.mul_le_mul_right (24 ^ 7) (Nat.le_trans this z3)
end Go.Proofs.Ytnjaokhdeaeegaa
namespace Go.Proofs.Ytnjaokhdeaeegaa
open Go Go.Abs
theorem up_le {β:Type} {f:Nat→List β}:∀ {P p:Nat},p≤P→((List.range p).flatMap f).length≤((List.range P).flatMap f).length:=by
 intro P
 induction P with
 | zero=>intro p h; obtain rfl:p=0:=by omega
         exact Nat.le_refl _
 | succ P ih =>
  intro p h
  by_cases e:p=P+1
  ·subst e; exact Nat.le_refl _
  ·have:=ih (p:=p) (by omega)
   rw [List.range_succ (n:=P),List.flatMap_append,List.length_append]
   omega
theorem q2M {β:Type} {f:Nat→List β} (p:Nat):(List.range (p+1)).flatMap f=(List.range p).flatMap f++f p:=by
 rw [List.range_succ,List.flatMap_append]; simp
theorem fzG {α:Type} {k:Nat} {enc:α→T} {l:List α} {h:Heap} {P:Nat→Bool}:frzObj h P (rowG k enc l)=some (rowG k enc l):=by
 rw [q6t]
 simp only [frzObj,q23,if_true]
theorem nmG {α:Type} {k:Nat} {enc:α→T} {l:List α}:namesObj (some (rowG k enc l))=[]:=by
 rw [rowG,q6m]
 generalize l.map enc=m
 induction m with
 | nil=>rfl
 | cons x m ih=>simpa [namesAll,names] using ih
section
variable (c1 c2:Bool) (t:Tpo) (h:okT t=true) (frm tgt:Nat)
include h
theorem q71 {r:List Nat} (hr:ptP t r) (hne:r≠[]):(ndL t r)[r.length]? = some ((atE (grT t) frm r:Nat):Int)∧atE (grT t) frm r < t.nodes.toNat:=by
 obtain ⟨a,q,rfl⟩:∃ a q,r=a++[q]:=⟨r.dropLast,r.getLast hne,(List.dropLast_concat_getLast hne).symm⟩
 obtain ⟨p1,p2,n1,n2,_⟩:=q0l h (hr q (by simp))
 rw [q0u]
 refine ⟨?_,n2⟩
 rw [ndL,List.length_append,List.length_cons,List.length_nil,List.getElem?_cons_succ,List.map_append,List.getElem?_append_right (by simp)]
 simp [p2]
 rfl
theorem q1K {n:Nat} (hn:n < t.nodes.toNat):(t.station.map B)[n]? = some (B (stA t n)):=by
 obtain ⟨z1,z2,z3⟩:=q0d h
 have hl:n < t.station.length:=by omega
 rw [List.getElem?_map,stA,List.getElem?_eq_getElem hl]; rfl
end
end Go.Proofs.Ytnjaokhdeaeegaa
namespace Go.Proofs.Ytnjaokhdeaeegaa
open Go Go.Abs
noncomputable def lpR (E:FEnv):AObj:=.loop 85 (lpEnv 13 (tidyF (some [2]) E)) [7] (rfOf Try.prog 85 0).1 (rfOf Try.prog 85 0).2 false none
noncomputable def hE (E:FEnv) (C:AV) (o:List (List Nat)) (S:List Bool) (m1 m4:Nat) (X:Heap):Heap :=
 [rowG 1 rgT o,.row 1 [.ms 0 o.length 0 o.length 1 false] m1,lpR E,.row 1 [.yl 2] 0,.row 12 [.t (.agg (S.map B))] m4,.row 1 [C] 1]++X
section
variable {E:FEnv} {C:AV} {o:List (List Nat)} {S:List Bool} {m1 m4:Nat} {X Y:Heap}
theorem q0K:(hE E C o S m1 m4 X).length=X.length+6:=by simp [hE]
theorem hE_3:(hE E C o S m1 m4 X)[3]? = some (.row 1 [.yl 2] 0):=rfl
theorem hE_4:(hE E C o S m1 m4 X)[4]? = some (.row 12 [.t (.agg (S.map B))] m4):=rfl
theorem hE_5:(hE E C o S m1 m4 X)[5]? = some (.row 1 [C] 1):=rfl
theorem q72:hE E C o S m1 m4 X++Y=hE E C o S m1 m4 (X++Y):=by simp [hE]
theorem q2N {S':List Bool} {m:Nat}:(hE E C o S m1 m4 X).set 4 (.row 12 [.t (.agg (S'.map B))] m)=hE E C o S' m1 m X:=rfl
theorem hE_at {j:Nat} {x:AObj} (hj:X.length=j):(hE E C o S m1 m4 (X++x::Y))[j+6]? = some x:=by
 subst hj
 show (X++x::Y)[X.length]? = some x
 simp
theorem qhV {j:Nat} (hj:X.length=j):(hE E C o S m1 m4 (X++Y)).take (j+6)=hE E C o S m1 m4 X:=by
 subst hj
 show [rowG 1 rgT o,.row 1 [.ms 0 o.length 0 o.length 1 false] m1,lpR E,.row 1 [.yl 2] 0,.row 12 [.t (.agg (S.map B))] m4,.row 1 [C] 1]++(X++Y).take X.length=_
 simp [hE]
end
theorem qhW (E:FEnv) (hE2:E 2=.ref 1 1 0 0) (C:AV) (o:List (List Nat)) (S:List Bool) (m1 m4:Nat) (hm1:m1≤1) (X:Heap) (r:List Nat) (hroom:(o.length+1)*24≤roomB) (nn dd:Nat) (Q:AV→Heap→Prop)
  (hQ:Q (.t (B true)) (hE E C (o++[r]) S 1 m4 X)) :
  oB (inl Try.prog pol (ans Try.prog pol) nn (dd+1) (.yl 2) [.t (rgT r)] (hE E C o S m1 m4 X)) Q:=by
 generalize hrf:rfOf Try.prog 85 0=rf at *
 have is1:rowIs 1 o.length (some (rowG 1 rgT o)):=q26
 simp only [hE,lpR,hrf,List.cons_append,List.nil_append] at hQ ⊢
 subst hrf
 with_reducible refine oB_yl (E:=tidyF (some [2]) E) rfl rfl rfl il85r0a_eq il85r0b_eq ?_
 (repeat' first|simp only [il85r0a,il85r0b,go_sem,hE2,hm1,is1,hroom,q0V,q0W,q6s]|with_reducible refine wX fun _=>?_|((with_reducible refine wY ?_ ?_); rfl)|fail)
 all_goals (simp only [List.length_append,List.length_cons,List.length_nil,Nat.zero_add] at hQ; exact hQ)
def mkS (V:List Nat):List Bool:=(List.range 12).map fun n=>decide (n∈V)
theorem q1f (V:List Nat):(mkS V).length=12:=by simp [mkS]
theorem qhX (V:List Nat) {n:Nat} (hn:n < 12):(mkS V)[n]? = some (decide (n∈V)):=by
 rw [mkS,List.getElem?_map,List.getElem?_range hn]; rfl
theorem q29 (V:List Nat) {n:Nat} (hn:n < 12):((mkS V).map B |>.map AV.t)[n]? = some (.t (B (decide (n∈V)))):=q1r (enc:=B) (qhX V hn)
theorem q73 {V W:List Nat} {n:Nat} {b:Bool} (h:∀ k,k < 12→(decide (k∈W))=if n=k then b else decide (k∈V)):(mkS V).set n b=mkS W:=by
 refine List.ext_getElem (by simp [mkS]) fun i h1 h2=>?_
 rw [q1f] at h2
 have:=h i h2
 simp only [mkS,List.getElem_set,List.getElem_map,List.getElem_range]
 rw [this]
theorem q74 {V:List Nat} {n:Nat}:(mkS V).set n true=mkS (V++[n]):=q73 fun k _=>by
 by_cases e:n=k
 ·subst e; simp
 ·rw [if_neg e]
  have:k≠n:=fun h=>e h.symm
  simp [this]
theorem q75 {V:List Nat} {n:Nat} (hn:n ∉ V):(mkS (V++[n])).set n false=mkS V:=q73 fun k _=>by
 by_cases e:n=k
 ·subst e; simp [hn]
 ·rw [if_neg e]
  have:k≠n:=fun h=>e h.symm
  simp [this]
def gO (j:Nat):Heap:=List.replicate j .gone
theorem q0z (j:Nat):(gO j).length=j:=by simp [gO]
theorem qhY (j:Nat):gO j++[.gone]=gO (j+1):=by rw [gO,gO,List.replicate_succ']
theorem qhZ (h:Heap) (p:Nat→Bool):∀ j,mapO (frzObj h p) (gO j)=some (gO j):=by
 intro j
 induction j with
 | zero=>rfl
 | succ j ih =>
  rw [gO,List.replicate_succ]
  rw [gO] at ih
  simp only [mapO,frzObj,ih]
theorem qi0 (h:Heap) (j:Nat) (x:AObj):∀ k i,i+k=j+6→6≤i→goneOf h (fun o=>[j+6].contains o) i (gO k++[x])=some (gO (k+1)):=by
 intro k
 induction k with
 | zero =>
  intro i hi _
  obtain rfl:i=j+6:=by omega
  simp [gO,goneOf]
 | succ k ih =>
  intro i hi h6
  have hne:([j+6].contains i)=false:=by simp; omega
  rw [gO,List.replicate_succ,List.cons_append,goneOf]
  have:=ih (i+1) (by omega) (by omega)
  rw [gO] at this
  rw [this,hne]
  simp [frzObj,gO,List.replicate_succ]
theorem q76 (E:FEnv) (hE2:E 2=.ref 1 1 0 0) (h:Heap) (p:Nat→Bool) (hp:p 1=false):frzObj h p (lpR E)=some (lpR E):=by
 rw [lpR,q2G]
 simp only [go_sem,hE2,hp]
section
variable {E:FEnv} {C:AV} {o:List (List Nat)} {S:List Bool} {m1 m4:Nat}
theorem qi1 (hE2:E 2=.ref 1 1 0 0) (hC:∀ p:Nat→Bool,p 3=false→p 4=false→p 5=false→avoid p C=true) (j:Nat) (h:Heap) (p:Nat→Bool) (h0:p 0=false) (h1:p 1=false) (h2:p 2=false) (h3:p 3=false) (h4:p 4=false) (h5:p 5=false):mapO (frzObj h p) (hE E C o S m1 m4 (gO j))=some (hE E C o S m1 m4 (gO j)):=by
 have e1:frzObj h p (rowG 1 rgT o)=some (rowG 1 rgT o):=fzG
 have e2:frzObj h p (.row 1 [.ms 0 o.length 0 o.length 1 false] m1)=some (.row 1 [.ms 0 o.length 0 o.length 1 false] m1):=by simp [frzObj,avoidAll,avoid,h0]
 have e4:frzObj h p (.row 1 [.yl 2] 0)=some (.row 1 [.yl 2] 0):=by simp [frzObj,avoidAll,avoid,h2]
 have e5:frzObj h p (.row 12 [.t (.agg (S.map B))] m4)=some (.row 12 [.t (.agg (S.map B))] m4):=by simp [frzObj,avoidAll,avoid]
 have e6:frzObj h p (.row 1 [C] 1)=some (.row 1 [C] 1):=by simp [frzObj,avoidAll,hC p h3 h4 h5]
 have e7:=qhZ h p j
 simp only [hE,List.cons_append,List.nil_append,mapO,e1,e2,q76 E hE2 h p h1,e4,e5,e6,e7]
theorem q77 (hE2:E 2=.ref 1 1 0 0) (hC:∀ p:Nat→Bool,p 3=false→p 4=false→p 5=false→avoid p C=true) (h:Heap) (p:Nat→Bool) (hb:∀ i,i < 6→p i=false) {L L':Heap} (hL:goneOf h p 6 L=some L'):goneOf h p 0 (hE E C o S m1 m4 L)=some (hE E C o S m1 m4 L'):=by
 have e1:frzObj h p (rowG 1 rgT o)=some (rowG 1 rgT o):=fzG
 have e2:frzObj h p (.row 1 [.ms 0 o.length 0 o.length 1 false] m1)=some (.row 1 [.ms 0 o.length 0 o.length 1 false] m1):=by simp [frzObj,avoidAll,avoid,hb 0]
 have e3:=q76 E hE2 h p (hb 1 (by omega))
 have e4:frzObj h p (.row 1 [.yl 2] 0)=some (.row 1 [.yl 2] 0):=by simp [frzObj,avoidAll,avoid,hb 2]
 have e5:frzObj h p (.row 12 [.t (.agg (S.map B))] m4)=some (.row 12 [.t (.agg (S.map B))] m4):=by simp [frzObj,avoidAll,avoid]
 have e6:frzObj h p (.row 1 [C] 1)=some (.row 1 [C] 1):=by simp [frzObj,avoidAll,hC p (hb 3 (by omega)) (hb 4 (by omega)) (hb 5 (by omega))]
 simp only [hE,List.cons_append,List.nil_append,q6n,hb 0 (by omega),hb 1 (by omega),hb 2 (by omega),hb 3 (by omega),hb 4 (by omega),hb 5 (by omega),e1,e2,e3,e4,e5,e6,hL,q65,q64,Bool.false_eq_true,if_false,Nat.zero_add,Nat.reduceAdd]
theorem q3Z (hE2:E 2=.ref 1 1 0 0) (hC:∀ p:Nat→Bool,p 3=false→p 4=false→p 5=false→avoid p C=true) (j:Nat) (x:AObj) (e:FEnv):freezeF [j+6] e (hE E C o S m1 m4 (gO j++[x]))=some (frzF (hE E C o S m1 m4 (gO j++[x])) (fun o=>[j+6].contains o) e,hE E C o S m1 m4 (gO (j+1))):=by
 rw [q3K,q77 hE2 hC _ _ (fun i hi=>by simp; omega) (qi0 _ j x j 6 (by omega) (by omega)),q3J]
end
end Go.Proofs.Ytnjaokhdeaeegaa
namespace Go.Proofs.Ytnjaokhdeaeegaa
open Go Go.Abs
section
variable (c1 c2:Bool) (t:Tpo) (h:okT t=true) (frm tgt:Nat)
abbrev exC:List AV:=[.t (.ip [I (tgt:Nat)]),.ref 3 1 0 0,.t (.ip [I (frm:Nat)]),.t (.ip (srS c1 c2 t)),.ref 4 1 0 0,.ref 5 1 0 0]
abbrev exF:AV:=.fn (.func 75) [] (exC c1 c2 t frm tgt)
theorem q2a (p:Nat→Bool) (h3:p 3=false) (h4:p 4=false) (h5:p 5=false):avoid p (exF c1 c2 t frm tgt)=true:=by
 simp [avoid,avoidAll,h3,h4,h5]
def vis (r:List Nat):List Nat:=(frm::r.map (toN t)).dropLast
def extL:Nat→List Nat→List (List Nat)
 | 0,r=>if atE (grT t) frm r=tgt then [r] else []
 | k+1,r=>if atE (grT t) frm r=tgt then [r] else if r≠[]∧stA t (atE (grT t) frm r)=true then [] else
   (List.range (2*t.links.length)).flatMap fun p=>if frN t p=atE (grT t) frm r∧toN t p ∉ frm::r.map (toN t) then extL k (r++[p]) else []
include h
theorem q78 (k:Nat) (r:List Nat) (hrk:r.length+k=8) (hne:r≠[]) (hr:ptP t r) (E:FEnv) (hE2:E 2=.ref 1 1 0 0) (he:atE (grT t) frm r=tgt) (j nn dd:Nat) (o:List (List Nat)) (m1 m4:Nat) (hm1:m1≤1) (hroom:(o.length+1)*24≤roomB) (Q:AV→Heap→Prop)
  (hQ:Q (.t (B true)) (hE E (exF c1 c2 t frm tgt) (o++[r]) (mkS (vis t frm r)) 1 m4 (gO (j+1)))) :
  oB (inl Try.prog pol (ans Try.prog pol) nn (dd+2) (.fn 75) (.ms (j+6) r.length 0 r.length 1 false::.t (I (atE (grT t) frm r:Nat))::exC c1 c2 t frm tgt) (hE E (exF c1 c2 t frm tgt) o (mkS (vis t frm r)) m1 m4 (gO j++[rowG 1 I (r.map ofN)]))) Q:=by
 have g0:=hE_at (E:=E) (C:=exF c1 c2 t frm tgt) (o:=o) (S:=mkS (vis t frm r)) (m1:=m1) (m4:=m4) (X:=gO j) (Y:=[]) (x:=rowG 1 I (r.map ofN)) (q0z j)
 have fz:=q3Z (C:=exF c1 c2 t frm tgt) (o:=o) (S:=mkS (vis t frm r)) (m1:=m1) (m4:=m4) hE2 (q2a c1 c2 t frm tgt) j (rowG 1 I (r.map ofN))
 have zR:∀ P:Nat→Bool,P (j+6)=true→frz (hE E (exF c1 c2 t frm tgt) o (mkS (vis t frm r)) m1 m4 (gO j++[rowG 1 I (r.map ofN)])) P (.ms (j+6) r.length 0 r.length 1 false)=some (.t (rgT r)):=by
  intro P hP
  rw [q2H (enc:=I) (l:=r.map ofN) (mr:=0) hP g0 (Nat.zero_le _) (by simp)]
  rfl
 have q2:(2 == j+6)=false:=by simp
 have q3:(3 == j+6)=false:=by simp
 have q4:(4 == j+6)=false:=by simp
 have q5:(5 == j+6)=false:=by simp
 have hlen:(gO j++[rowG 1 I (r.map ofN)]).length=j+1:=by simp [gO]
 generalize hS:mkS (vis t frm r)=S at *
 generalize exF c1 c2 t frm tgt=CF at *
 rw [he]
 with_reducible refine q0i il75_eq ?_ ?_
 ·exact Nat.le_of_ble_eq_true rfl
 simp only [exC,List.cons_append,List.nil_append]
 (repeat' first|simp only [il75c,go_sem,hE_3,hE_4,hE_5,q0K,g0,fz,zR,q2,q3,q4,q5,nmG,beq_self_eq_true,q0z]|with_reducible refine wX fun _=>?_|((with_reducible refine wY ?_ ?_); rfl)|fail)
 with_reducible refine @qhW E hE2 CF o S m1 m4 hm1 (gO (j+1)) r hroom nn dd _ ?_
 (repeat' first|simp only [il75c,go_sem]|with_reducible refine wX fun _=>?_|((with_reducible refine wY ?_ ?_); rfl)|fail)
 all_goals exact hQ
omit h in
theorem qi2 (r:List Nat):vis t frm r++[atE (grT t) frm r]=frm::r.map (toN t):=by
 unfold vis
 rcases List.eq_nil_or_concat r with rfl|⟨a,q,rfl⟩
 ·rfl
 ·rw [List.concat_eq_append,q0u,List.map_append,← List.cons_append,List.map_cons,List.map_nil,List.dropLast_concat]; rfl
omit h in
theorem q79 (r:List Nat) (p:Nat):vis t frm (r++[p])=frm::r.map (toN t):=by
 unfold vis
 rw [List.map_append,← List.cons_append,List.map_cons,List.map_nil,List.dropLast_concat]
theorem q7a (r:List Nat) (hne:r≠[]) (hl8:r.length≤8) (hr:ptP t r) (E:FEnv) (hE2:E 2=.ref 1 1 0 0) (n:Nat) (hn12:n < t.nodes.toNat) (he:n≠tgt) (hs:r.length=8∨n≠frm∧stA t n=true) (j nn dd:Nat) (o:List (List Nat)) (S:List Bool) (m1 m4:Nat) (Q:AV→Heap→Prop)
  (hQ:Q (.t (B true)) (hE E (exF c1 c2 t frm tgt) o S m1 m4 (gO (j+1)))) :
  oB (inl Try.prog pol (ans Try.prog pol) nn (dd+1) (.fn 75) (.ms (j+6) r.length 0 r.length 1 false::.t (I (n:Nat))::exC c1 c2 t frm tgt) (hE E (exF c1 c2 t frm tgt) o S m1 m4 (gO j++[rowG 1 I (r.map ofN)]))) Q:=by
 obtain ⟨z1,z2,z3⟩:=q0d h
 have g0:=hE_at (E:=E) (C:=exF c1 c2 t frm tgt) (o:=o) (S:=S) (m1:=m1) (m4:=m4) (X:=gO j) (Y:=[]) (x:=rowG 1 I (r.map ofN)) (q0z j)
 have fz:=q3Z (C:=exF c1 c2 t frm tgt) (o:=o) (S:=S) (m1:=m1) (m4:=m4) hE2 (q2a c1 c2 t frm tgt) j (rowG 1 I (r.map ofN))
 have zR:∀ P:Nat→Bool,P (j+6)=true→frz (hE E (exF c1 c2 t frm tgt) o S m1 m4 (gO j++[rowG 1 I (r.map ofN)])) P (.ms (j+6) r.length 0 r.length 1 false)=some (.t (rgT r)):=by
  intro P hP
  rw [q2H (enc:=I) (l:=r.map ofN) (mr:=0) hP g0 (Nat.zero_le _) (by simp)]
  rfl
 have q2:(2 == j+6)=false:=by simp
 have q3:(3 == j+6)=false:=by simp
 have q4:(4 == j+6)=false:=by simp
 have q5:(5 == j+6)=false:=by simp
 have l1:=q0x r
 have d1:decide (((n:Nat):Int)=((tgt:Nat):Int))=false:=decide_eq_false (by omega)
 have gs:(t.station.map B)[n]? = some (B (stA t n)):=q1K t h hn12
 have hst:n < t.station.length:=by omega
 generalize exF c1 c2 t frm tgt=CF at *
 with_reducible refine q0i il75_eq ?_ ?_
 ·exact Nat.le_of_ble_eq_true rfl
 simp only [exC,List.cons_append,List.nil_append]
 by_cases h8:r.length=8
 ·have d8:decide (((r.length:Nat):Int)=8)=true:=decide_eq_true (by omega)
  (repeat' first|simp only [il75c,go_sem,hE_3,hE_4,hE_5,q0K,g0,fz,zR,q2,q3,q4,q5,nmG,beq_self_eq_true,q0z,d1,d8,l1]|with_reducible refine wX fun _=>?_|((with_reducible refine wY ?_ ?_); rfl)|fail)
  all_goals exact hQ
 ·have d8:decide (((r.length:Nat):Int)=8)=false:=decide_eq_false (by omega)
  obtain ⟨hnf,hst'⟩:=hs.resolve_left h8
  have d9:decide (((n:Nat):Int)=((frm:Nat):Int))=false:=decide_eq_false (by omega)
  rw [hst'] at gs
  (repeat' first|simp only [il75c,go_sem,hE_3,hE_4,hE_5,q0K,g0,fz,zR,q2,q3,q4,q5,nmG,beq_self_eq_true,q0z,d1,d8,d9,l1,gs,hst,q0b,srC_1,List.drop_drop]|with_reducible refine wX fun _=>?_|((with_reducible refine wY ?_ ?_); rfl)|fail)
  all_goals exact hQ
omit h in
theorem q2O {size:Nat} {kk kl:IntKind}:iSlice size (.t (.sc (.slice none 0 0))) none (some (.t (.sc (.int kk 0)))) (some (.t (.sc (.int kl 0))))=some (.t (.sc (.slice none 0 0))):=rfl
def ExtIH (E:FEnv) (nn k:Nat):Prop:=∀ (r:List Nat),r.length+k=8→r≠[]→ptP t r→(frm::r.map (toN t)).Nodup→∀ (L n:Nat) (V:List Nat),L=r.length→n=atE (grT t) frm r→V=vis t frm r→∀ (j dd:Nat) (o:List (List Nat)) (m1 m4:Nat) (Q:AV→Heap→Prop),k+2≤dd→o.length+(extL t frm tgt k r).length≤110075314176→m1≤1→m4≤1 →
 (∀ m1' m4' Y,m1'≤1→m4'≤1→Q (.t (B true)) (hE E (exF c1 c2 t frm tgt) (o++extL t frm tgt k r) (mkS V) m1' m4' (gO (j+1)++Y))) →
 oB (inl Try.prog pol (ans Try.prog pol) nn dd (.fn 75) (.ms (j+6) L 0 L 1 false::.t (I (n:Nat))::exC c1 c2 t frm tgt) (hE E (exF c1 c2 t frm tgt) o (mkS V) m1 m4 (gO j++[rowG 1 I (r.map ofN)]))) Q
theorem q7b (E:FEnv) (hE2:E 2=.ref 1 1 0 0) (nn k:Nat) (hnn:100 < nn) (hIH:ExtIH c1 c2 t frm tgt E nn k) (r:List Nat) (hrk:r.length+(k+1)=8) (hr:ptP t r) (hnd:(frm::r.map (toN t)).Nodup) (hf0:frm < t.nodes.toNat)
  (R0:T) (hR0:R0=rgT r∧r≠[]∨R0=.sc (.slice none 0 0)∧r=[]) (n:Nat) (hn:n=atE (grT t) frm r) (W:List Nat) (hW:W=frm::r.map (toN t)) (f:Nat→List (List Nat)) (hfd:f=fun p=>if frN t p=n∧toN t p ∉ W then extL t frm tgt k (r++[p]) else [])
  (j dd:Nat) (hdd:k+2≤dd) (o:List (List Nat)) (ho:o.length+((List.range (2*t.links.length)).flatMap f).length≤110075314176) (m1 m4:Nat) (hm1:m1≤1) (hm4:m4≤1) (R:Xit→FEnv→Heap→Prop) (e:FEnv)
  (he:e 0=.t R0∧e 1=.t (I (n:Nat))∧e 5=.t (.ip (srS c1 c2 t))∧e 6=.ref 4 1 0 0∧e 7=.ref 5 1 0 0∧e 37=.t (I ((2*t.links.length:Nat):Int))∧e 38=.t (I 0))
  (hR:∀ e m1' m4',m1'≤1→m4'≤1→(e 1=.t (I (n:Nat))∧e 6=.ref 4 1 0 0)→R (.exit 0) e (hE E (exF c1 c2 t frm tgt) (o++(List.range (2*t.links.length)).flatMap f) (mkS W) m1' m4' (gO j))) :
  wpIter (j+6) (some [0,1,5,6,7,37,38]) (wc Try.prog pol (ans Try.prog pol) (inl Try.prog pol (ans Try.prog pol) nn dd) nn 75 il75l0) R nn e (hE E (exF c1 c2 t frm tgt) o (mkS W) m1 m4 (gO j)):=by
 obtain ⟨z1,z2,z3⟩:=q0d h
 unfold ExtIH at hIH
 have l1:=q0x r
 refine q0E (2*t.links.length) (step:=fun p (o:List (List Nat))=>.go (o++f p)) (fin:=id)
  (St:=fun p o' e h=>(e 0=.t R0∧e 1=.t (I (n:Nat))∧e 5=.t (.ip (srS c1 c2 t))∧e 6=.ref 4 1 0 0∧e 7=.ref 5 1 0 0∧e 37=.t (I ((2*t.links.length:Nat):Int))∧e 38=.t (I (p:Nat)))∧o'=o++(List.range p).flatMap f∧∃ m1 m4,m1≤1∧m4≤1∧h=hE E (exF c1 c2 t frm tgt) o' (mkS W) m1 m4 (gO j))
  (Ex:=fun o' x e h=>x=.exit 0∧(e 1=.t (I (n:Nat))∧e 6=.ref 4 1 0 0)∧o'=o++(List.range (2*t.links.length)).flatMap f∧∃ m1 m4,m1≤1∧m4≤1∧h=hE E (exF c1 c2 t frm tgt) o' (mkS W) m1 m4 (gO j)) (s:=o) (by omega) ?_ ?_ (by omega) ?_ ?_
 ·intro p o' e h0 Y R' hp hlt hw ⟨hs,ho',m1,m4,hm1,hm4,hh⟩ hk
  subst hh
  simp only [q05] at hk
  obtain ⟨p1,p2,n1,n2,n3⟩:=q0l h hp
  have gF:=q2J (c1:=c1) (c2:=c2) (t:=t) (G:=endsL t (toP t)) (q0Q (f:=frP t) z3 hp)
  have gT:=q1t (c1:=c1) (c2:=c2) (t:=t) (q0a t (frP t)) (q0Q (f:=toP t) z3 hp)
  rw [p1] at gF
  rw [p2] at gT
  have h48:p < 48:=by omega
  have t12:toN t p < 12:=by omega
  have gS:=q29 W (n:=toN t p) t12
  have hfp:f p=if frN t p=n∧toN t p ∉ W then extL t frm tgt k (r++[p]) else []:=by rw [hfd]
  have hle:=up_le (f:=f) (show p+1≤2*t.links.length by omega)
  rw [q2M,List.length_append] at hle
  have hol:o'.length=o.length+((List.range p).flatMap f).length:=by rw [ho',List.length_append]
  have hmS:(mkS W).length=12:=q1f W
  have hmB:((mkS W).map B).length=12:=by rw [List.length_map,hmS]
  by_cases q1:frN t p=n
  ·have d1:decide (((frN t p:Nat):Int)=((n:Nat):Int))=true:=decide_eq_true (by omega)
   by_cases q2:toN t p∈W
   ·rw [if_neg (fun k=>k.2 q2)] at hfp
    rw [decide_eq_true q2] at gS
    rw [hfp,List.append_nil] at hk
    have ho2:o'=o++(List.range (p+1)).flatMap f:=by rw [q2M,hfp,List.append_nil]; exact ho'
    (repeat' first|simp only [il75l0_go,il75l0b,go_sem,hs,hlt,hw,gF,gT,gS,h48,t12,d1,hE_4,hm4,q0K,q0z,q0b,Nat.mul_one,List.drop_drop,hmB]|with_reducible refine wX fun _=>?_|((with_reducible refine wY ?_ ?_); rfl)|fail)
    all_goals (refine hk _ _ ⟨?_,ho2,_,_,hm1,hm4,rfl⟩; simp only [go_sem,hs,hw])
   ·rw [if_pos ⟨q1,q2⟩] at hfp
    rw [decide_eq_false q2] at gS
    have hrp:ptP t (r++[p]):=fun q hq=>(List.mem_append.1 hq).elim (hr q) (fun hq=>by rw [List.mem_singleton.1 hq]; exact hp)
    have hnd2:(frm::(r++[p]).map (toN t)).Nodup:=by
     rw [List.map_append,← List.cons_append,List.nodup_append]
     refine ⟨hnd,by simp,fun x hx y hy hxy=>?_⟩
     simp only [List.map_cons,List.map_nil,List.mem_singleton] at hy
     subst hy hxy
     exact q2 (by rw [hW]; exact hx)
    have hrow:AObj.row 1 ((ptL r).map AV.t++[AV.t (I ((p:Nat):Int))]) 0=rowG 1 I ((r++[p]).map ofN):=by simp [rowG,ptL,ofN]
    have tkr:List.take r.length (ptL r)=ptL r:=List.take_of_length_le (by omega)
    have hroom2:(r.length+1)*8≤roomB:=q0I (by omega) (by omega)
    have hsh:∀ (e:FEnv) (m1 m4:Nat) (o:List (List Nat)) (Y:Heap),shrinkF (j+6) e (hE E (exF c1 c2 t frm tgt) o (mkS W) m1 m4 (gO (j+1)++Y))=some (frzF (hE E (exF c1 c2 t frm tgt) o (mkS W) m1 m4 (gO (j+1)++Y)) (fromB (j+6)) e,hE E (exF c1 c2 t frm tgt) o (mkS W) m1 m4 (gO j)):=by
     intro e m1 m4 o Y
     have e1:gO (j+1)++Y=gO j++(.gone::Y):=by rw [← qhY]; simp
     rw [e1,q3C (by rw [q0K,List.length_append,q0z]; simp),qhV (q0z j)]
     rw [qi1 hE2 (q2a c1 c2 t frm tgt) j _ _ (by simp [fromB]) (by simp [fromB]) (by simp [fromB]) (by simp [fromB]) (by simp [fromB]) (by simp [fromB])]
     rfl
    have hjj:j≤j+1:=Nat.le_succ j
    have hrg:List.range' (j+6) (j+1+6 - (j+6))=[j+6]:=by rw [show j+1+6 - (j+6)=1 by omega]; rfl
    have hrm0:8≤roomB:=by rw [q25]; omega
    have hjl:∀ k,j+6≤j+1+k+6:=fun k=>by omega
    have hcl:(exF c1 c2 t frm tgt).cells=[exF c1 c2 t frm tgt]:=rfl
    have f4:decide (j+6≤4)=false:=decide_eq_false (by omega)
    have f5:decide (j+6≤5)=false:=decide_eq_false (by omega)
    have ho2:o'++f p=o++(List.range (p+1)).flatMap f:=by rw [q2M,ho',List.append_assoc]
    have hlen2:o'.length+(extL t frm tgt k (r++[p])).length≤110075314176:=by rw [← hfp]; omega
    rcases hR0 with ⟨hR0,hne⟩|⟨hR0,hne⟩
    ·rw [hR0] at hs
     (repeat' first|simp only [il75l0_go,il75l0b,go_sem,hs,hlt,gF,gT,gS,h48,t12,d1,hE_4,hE_5,hm4,q0K,q72,q0z,q0b,Nat.mul_one,List.drop_drop,hmB,l1,tkr,hroom2,hrow,hcl,hjj,hrg]|with_reducible refine wX fun _=>?_|((with_reducible refine wY ?_ ?_); rfl)|fail)
     with_reducible refine @hIH (r++[p]) ?_ ?_ hrp hnd2 (r.length+1) (toN t p) W ?_ ?_ ?_ j dd o' m1 m4 _ hdd hlen2 hm1 hm4 ?_
     ·simp; omega
     ·simp
     ·simp
     ·rw [q0u]; rfl
     ·rw [q79,hW]
     intro m1' m4' Y' hm1' hm4'
     (repeat' first|simp only [il75l0_go,il75l0b,go_sem,hs,hw,hsh,q0K,List.length_append,q0z,f4,f5,hjl]|with_reducible refine wX fun _=>?_|((with_reducible refine wY ?_ ?_); rfl)|fail)
     all_goals (rw [← hfp]; refine ⟨Nat.le_add_right _ _,rfl,hk _ _ ⟨?_,ho2,_,_,hm1',hm4',rfl⟩⟩; simp only [go_sem,hs,hw,f4,f5,hR0])
    ·rw [hR0] at hs
     have hrow0:AObj.row 1 [AV.t (I ((p:Nat):Int))] 0=rowG 1 I ((r++[p]).map ofN):=by rw [hne]; rfl
     (repeat' first|simp only [il75l0_go,il75l0b,go_sem,hs,hlt,gF,gT,gS,h48,t12,d1,hE_4,hE_5,hm4,q0K,q72,q0z,q0b,Nat.mul_one,List.drop_drop,hmB,l1,q2O,hcl,hrm0,hrow0,hjj,hrg]|with_reducible refine wX fun _=>?_|((with_reducible refine wY ?_ ?_); rfl)|fail)
     with_reducible refine @hIH (r++[p]) ?_ ?_ hrp hnd2 1 (toN t p) W ?_ ?_ ?_ j dd o' m1 m4 _ hdd hlen2 hm1 hm4 ?_
     ·simp; omega
     ·simp
     ·rw [hne]; rfl
     ·rw [q0u]; rfl
     ·rw [q79,hW]
     intro m1' m4' Y' hm1' hm4'
     (repeat' first|simp only [il75l0_go,il75l0b,go_sem,hs,hw,hsh,q0K,List.length_append,q0z,f4,f5,hjl]|with_reducible refine wX fun _=>?_|((with_reducible refine wY ?_ ?_); rfl)|fail)
     all_goals (rw [← hfp]; refine ⟨Nat.le_add_right _ _,rfl,hk _ _ ⟨?_,ho2,_,_,hm1',hm4',rfl⟩⟩; simp only [go_sem,hs,hw,f4,f5,hR0])
  ·have d1:decide (((frN t p:Nat):Int)=((n:Nat):Int))=false:=decide_eq_false (by omega)
   rw [if_neg (fun k=>q1 k.1)] at hfp
   rw [hfp,List.append_nil] at hk
   have ho2:o'=o++(List.range (p+1)).flatMap f:=by rw [q2M,hfp,List.append_nil]; exact ho'
   (repeat' first|simp only [il75l0_go,il75l0b,go_sem,hs,hlt,hw,gF,h48,d1,q0K,q0z,q0b,Nat.mul_one,List.drop_drop]|with_reducible refine wX fun _=>?_|((with_reducible refine wY ?_ ?_); rfl)|fail)
   all_goals (refine hk _ _ ⟨?_,ho2,_,_,hm1,hm4,rfl⟩; simp only [go_sem,hs,hw])
 ·intro o' e h0 Y R' hlt ⟨hs,ho',m1,m4,hm1,hm4,hh⟩ hk
  subst hh
  (repeat' first|simp only [il75l0_go,il75l0b,go_sem,hs,hlt]|with_reducible refine wX fun _=>?_|((with_reducible refine wY ?_ ?_); rfl)|fail)
  all_goals (refine hk _ _ _ ⟨rfl,?_,ho',_,_,hm1,hm4,rfl⟩; simp only [go_sem,hs])
 ·refine ⟨by simp only [go_sem,he],by simp,_,_,hm1,hm4,rfl⟩
 ·intro x e h0 ⟨g1,g2,g3,m1,m4,hm1,hm4,g4⟩
  rw [← g3] at hR
  generalize foldC _ _ _ _ _=o2 at *
  subst g1 g4
  exact hR _ _ _ hm1 hm4 g2
theorem qi3 (E:FEnv) (hE2:E 2=.ref 1 1 0 0) (nn:Nat) (hnn:100 < nn) (hf0:frm < t.nodes.toNat):∀ k,ExtIH c1 c2 t frm tgt E nn k:=by
 obtain ⟨z1,z2,z3⟩:=q0d h
 intro k
 induction k with
 | zero =>
  intro r hrk hne hr hnd L n V hL hn hV j dd o m1 m4 Q hdd ho hm1 hm4 hQ
  subst hL hn hV
  obtain ⟨dd,rfl⟩:∃ x,dd=x+2:=⟨dd - 2,by omega⟩
  rw [extL] at ho hQ
  by_cases he:atE (grT t) frm r=tgt
  ·rw [if_pos he] at ho hQ
   with_reducible refine @q78 c1 c2 t h frm tgt 0 r hrk hne hr E hE2 he j nn dd o m1 m4 hm1 ?_ Q ?_
   ·simp only [List.length_cons,List.length_nil] at ho; rw [q25]; omega
   ·have:=hQ 1 m4 [] (Nat.le_refl 1) hm4
    rw [List.append_nil] at this; exact this
  ·rw [if_neg he,List.append_nil] at hQ
   obtain ⟨_,hat⟩:=q71 t h frm hr hne
   with_reducible refine @q7a c1 c2 t h frm tgt r hne ?_ hr E hE2 _ hat he ?_ j nn (dd+1) o _ m1 m4 Q ?_
   ·omega
   ·exact .inl (by omega)
   ·have:=hQ m1 m4 [] hm1 hm4
    rw [List.append_nil] at this; exact this
 | succ k ih =>
  intro r hrk hne hr hnd L n V hL hn hV j dd o m1 m4 Q hdd ho hm1 hm4 hQ
  obtain ⟨dd,rfl⟩:∃ x,dd=x+2:=⟨dd - 2,by omega⟩
  rw [extL] at ho hQ
  by_cases he:atE (grT t) frm r=tgt
  ·subst hL hn hV
   rw [if_pos he] at ho hQ
   with_reducible refine @q78 c1 c2 t h frm tgt (k+1) r hrk hne hr E hE2 he j nn dd o m1 m4 hm1 ?_ Q ?_
   ·simp only [List.length_cons,List.length_nil] at ho; rw [q25]; omega
   ·have:=hQ 1 m4 [] (Nat.le_refl 1) hm4
    rw [List.append_nil] at this; exact this
  ·rw [if_neg he] at ho hQ
   obtain ⟨_,hat⟩:=q71 t h frm hr hne
   have hvs:=qi2 t frm r
   rw [← hn] at he hat hvs ho hQ
   rw [← hV] at hvs
   have hnV:n ∉ V:=by
    rw [← hvs,List.nodup_append] at hnd
    exact fun hm=>hnd.2.2 n hm n (by simp) rfl
   have hnf:n≠frm:=by
    intro e
    obtain ⟨a,q,rfl⟩:∃ a q,r=a++[q]:=⟨r.dropLast,r.getLast hne,(List.dropLast_concat_getLast hne).symm⟩
    rw [q0u] at hn
    rw [List.nodup_cons] at hnd
    exact hnd.1 (by rw [← e,hn]; simp; right; rfl)
   by_cases hs:stA t n=true
   ·subst hL
    rw [if_pos ⟨hne,hs⟩,List.append_nil] at hQ
    with_reducible refine @q7a c1 c2 t h frm tgt r hne ?_ hr E hE2 n hat he ?_ j nn (dd+1) o _ m1 m4 Q ?_
    ·omega
    ·exact .inr ⟨hnf,hs⟩
    ·have:=hQ m1 m4 [] hm1 hm4
     rw [List.append_nil] at this; exact this
   ·rw [if_neg (fun k=>hs k.2)] at ho hQ
    have hs':stA t n=false:=by rw [← Bool.not_eq_true]; exact hs
    obtain ⟨f,hfd⟩:∃ f:Nat→List (List Nat),f=fun p=>if frN t p=n∧toN t p ∉ frm::r.map (toN t) then extL t frm tgt k (r++[p]) else []:=⟨_,rfl⟩
    rw [← hfd] at ho hQ
    rw [← hvs] at hfd
    have hW:V++[n]=frm::r.map (toN t):=hvs
    have g0:=hE_at (E:=E) (C:=exF c1 c2 t frm tgt) (o:=o) (S:=mkS V) (m1:=m1) (m4:=m4) (X:=gO j) (Y:=[]) (x:=rowG 1 I (r.map ofN)) (q0z j)
    have fz:=q3Z (C:=exF c1 c2 t frm tgt) (o:=o) (S:=mkS V) (m1:=m1) (m4:=m4) hE2 (q2a c1 c2 t frm tgt) j (rowG 1 I (r.map ofN))
    have zR:∀ P:Nat→Bool,P (j+6)=true→frz (hE E (exF c1 c2 t frm tgt) o (mkS V) m1 m4 (gO j++[rowG 1 I (r.map ofN)])) P (.ms (j+6) r.length 0 r.length 1 false)=some (.t (rgT r)):=by
     intro P hP
     rw [q2H (enc:=I) (l:=r.map ofN) (mr:=0) hP g0 (Nat.zero_le _) (by simp)]
     rfl
    have q3:(3 == j+6)=false:=by simp
    have q4:(4 == j+6)=false:=by simp
    have q5:(5 == j+6)=false:=by simp
    have l1:=q0x r
    have n12:n < 12:=by omega
    have d1:decide (((n:Nat):Int)=((tgt:Nat):Int))=false:=decide_eq_false (by omega)
    have d8:decide (((r.length:Nat):Int)=8)=false:=decide_eq_false (by omega)
    have d9:decide (((n:Nat):Int)=((frm:Nat):Int))=false:=decide_eq_false (by omega)
    have gs:(t.station.map B)[n]? = some (B (stA t n)):=q1K t h hat
    rw [hs'] at gs
    have hst:n < t.station.length:=by omega
    have gS:=q29 V n12
    have gS2:=q29 (V++[n]) n12
    have tk:=fun V:List Nat=>@tkdr (((mkS V).map B).map AV.t) n (.t (B true)) (by simp [q1f]; omega)
    have tk2:=fun V:List Nat=>@tkdr (((mkS V).map B).map AV.t) n (.t (B false)) (by simp [q1f]; omega)
    have hset:=fun V:List Nat=>map_set (enc:=B) (l:=mkS V) (i:=n) (x:=true)
    have hset2:=fun V:List Nat=>map_set (enc:=B) (l:=mkS V) (i:=n) (x:=false)
    have hmt:=@q74 V n
    have hmf:=q75 hnV
    have hmS:=fun V:List Nat=>q1f V
    have b12:n+1≤12:=by omega
    have hsr:=q0C (c1:=c1) (c2:=c2) (t:=t) (F:=endsL t (frP t)) (G:=endsL t (toP t))
    have hl:=q0F (c1:=c1) (c2:=c2) (t:=t) (q0a t (frP t)) (q0a t (toP t))
    have htk:List.take 99 (srS c1 c2 t)=srS c1 c2 t:=List.take_of_length_le (by rw [hl]; exact Nat.le_refl _)
    have kP:=q1I c1 c2 t (endsL t (frP t)) (endsL t (toP t)) h
    rw [hL]
    with_reducible refine q0i il75_eq ?_ ?_
    ·exact Nat.le_of_ble_eq_true rfl
    simp only [exC,List.cons_append,List.nil_append]
    (repeat' first|simp only [il75c,go_sem,hE_3,hE_4,hE_5,q0K,g0,fz,zR,q3,q4,q5,nmG,beq_self_eq_true,q0z,d1,d8,d9,l1,gs,hst,q0b,srC_1,List.drop_drop,gS,tk,hset,hmt,hmS,b12,n12,hm4,q2N,hsr,hl,htk,kP,Nat.mul_one,List.length_map]|with_reducible refine wX fun _=>?_|((with_reducible refine wY ?_ ?_); rfl)|fail)
    refine q7b c1 c2 t h frm tgt E hE2 nn k hnn ih r (by omega) hr hnd hf0 (rgT r) (.inl ⟨rfl,hne⟩) n hn (V++[n]) hW f hfd (j+1) (dd+1) (by omega) o ho m1 1 hm1 (Nat.le_refl 1) _ _ (by simp only [go_sem]) ?_
    intro e1 m1' m4' hm1' hm4' he1
    (repeat' first|simp only [il75c,go_sem,he1,hE_4,q0K,q0z,gS2,tk2,hset2,hmf,hmS,b12,n12,hm4',q2N,Nat.mul_one,List.length_map]|with_reducible refine wX fun _=>?_|((with_reducible refine wY ?_ ?_); rfl)|fail)
    all_goals (have hq:=hQ m1' 1 [] hm1' (Nat.le_refl 1); rw [List.append_nil] at hq; exact hq)
end
end Go.Proofs.Ytnjaokhdeaeegaa
namespace Go.Proofs.Ytnjaokhdeaeegaa
open Go Go.Abs
section
variable (c1 c2:Bool) (t:Tpo) (h:okT t=true)
include h
theorem qi4 (n first hi:Nat) (J:List (Value × Nat)) (J0:Inl) (nn:Nat) (hn:n≤4000000000000000000) (hfh:first+hi≤n):∀ (r root:Nat) (d:Rts) (m k:Nat),hi - root≤r→root≤hi→d.size=n→okD t d→m≤n→r < k→∀ (R:Xit→FEnv→Heap→Prop) (e:FEnv),
  (e 0=.ms 0 n 0 n 1 false∧e 2=.t (I (hi:Nat))∧e 3=.t (I (first:Nat))∧e 4=.t (cmF c1 c2 t)∧e 10=.t (I (root:Nat))) →
  (∀ x e m',x=.exit 0∨x=.ret→m'≤n→R x e (hS (Sort.siftDown (ltR t) hi first root d) m' J)) →
  wpIter (J.length+1) (some [0,2,3,4,10]) (wc Try.prog pol (ans Try.prog pol) J0 nn 110 il110l0) R k e (hS d m J):=by
 intro r
 induction r with
 | zero =>
  intro root d m k hr hrt hd ho hm hk R e hs hR
  obtain ⟨k,rfl⟩:∃ q,k=q+1:=⟨k - 1,by omega⟩
  have w1:IntKind.i64.wrap (2*((root:Nat):Int))=((2*root:Nat):Int):=by rw [q00 (by omega) (by omega)]; omega
  have w2:IntKind.i64.wrap (((2*root:Nat):Int)+1)=((2*root+1:Nat):Int):=q00 (by omega) (by omega)
  have d1:decide (((hi:Nat):Int)≤((2*root+1:Nat):Int))=true:=decide_eq_true (by omega)
  rw [Sort.siftDown,dif_pos (by omega)] at hR
  rw [q07]
  (repeat' first|simp only [il110l0_go,il110l0b,go_sem,hs,d1,w1,w2]|with_reducible refine wX fun _=>?_|((with_reducible refine wY ?_ ?_); rfl)|fail)
  all_goals exact hR _ _ m (.inl rfl) hm
 | succ r ih =>
  intro root d m k hr hrt hd ho hm hk R e hs hR
  obtain ⟨k,rfl⟩:∃ q,k=q+1:=⟨k - 1,by omega⟩
  have w1:IntKind.i64.wrap (2*((root:Nat):Int))=((2*root:Nat):Int):=by rw [q00 (by omega) (by omega)]; omega
  have w2:IntKind.i64.wrap (((2*root:Nat):Int)+1)=((2*root+1:Nat):Int):=q00 (by omega) (by omega)
  rw [Sort.siftDown] at hR
  rw [q07,hS_eq]
  by_cases h1:2*root+1 ≥ hi
  ·have d1:decide (((hi:Nat):Int)≤((2*root+1:Nat):Int))=true:=decide_eq_true (by omega)
   rw [dif_pos h1] at hR
   (repeat' first|simp only [il110l0_go,il110l0b,go_sem,hs,d1,w1,w2]|with_reducible refine wX fun _=>?_|((with_reducible refine wY ?_ ?_); rfl)|fail)
   all_goals exact hR _ _ m (.inl rfl) hm
  ·have d1:decide (((hi:Nat):Int)≤((2*root+1:Nat):Int))=false:=decide_eq_false (by omega)
   rw [dif_neg h1] at hR
   have e2:2*root+1+1=2*root+2:=rfl
   have w3:IntKind.i64.wrap (((2*root+1:Nat):Int)+1)=((2*root+2:Nat):Int):=q00 (by omega) (by omega)
   have w4:IntKind.i64.wrap (((first:Nat):Int)+((2*root+1:Nat):Int))=((first+(2*root+1):Nat):Int):=q00 (by omega) (by omega)
   have w5:IntKind.i64.wrap (((first:Nat):Int)+((root:Nat):Int))=((first+root:Nat):Int):=q00 (by omega) (by omega)
   have w6:IntKind.i64.wrap (((first+(2*root+1):Nat):Int)+1)=((first+(2*root+1)+1:Nat):Int):=q00 (by omega) (by omega)
   have w7:IntKind.i64.wrap (((first:Nat):Int)+((2*root+2:Nat):Int))=((first+(2*root+2):Nat):Int):=q00 (by omega) (by omega)
   have b0:first+root < n:=by omega
   have b1:first+(2*root+1) < n:=by omega
   -- how a round ends whose child is x
   by_cases h2:2*root+1+1 < hi
   ·have d2:decide (((2*root+2:Nat):Int) < ((hi:Nat):Int))=true:=decide_eq_true (by omega)
    have b2:first+(2*root+1)+1 < n:=by omega
    have b3:first+(2*root+2) < n:=b2
    have k1:=q0j c1 c2 t h ho (i:=first+(2*root+1)) (j:=first+(2*root+1)+1) (by omega) (by omega)
    have dl1:=@q0g t d[first+(2*root+1)]! d[first+(2*root+1)+1]!
    have g1:=q06 (d:=d) (i:=first+(2*root+1)) (by omega)
    have g2:=q06 (d:=d) (i:=first+(2*root+1)+1) (by omega)
    cases hl1:ltR t d[first+(2*root+1)]! d[first+(2*root+1)+1]! with
    | true =>
     rw [hl1] at dl1 hR
     rw [if_pos (by simp [h2])] at hR
     have k2:=q0j c1 c2 t h ho (i:=first+root) (j:=first+(2*root+2)) (by omega) (by omega)
     have dl2:=@q0g t d[first+root]! d[first+(2*root+2)]!
     have sf:=q0y hd b0 b3
     cases hl2:ltR t d[first+root]! d[first+(2*root+2)]! with
     | false =>
      rw [hl2] at dl2 hR
      rw [if_pos (by simp)] at hR
      (repeat' first|simp only [il110l0_go,il110l0b,go_sem,hs,d1,d2,w1,w2,w3,w4,w5,w6,w7,k1,k2,dl1,dl2,g1,g2,sf,hm,b0,b1,b2,b3]|with_reducible refine wX fun _=>?_|((with_reducible refine wY ?_ ?_); rfl)|fail)
      all_goals exact hR _ _ m (.inr rfl) hm
     | true =>
      rw [hl2] at dl2 hR
      rw [if_neg (by simp),dif_pos (by omega)] at hR
      (repeat' first|simp only [il110l0_go,il110l0b,go_sem,hs,d1,d2,w1,w2,w3,w4,w5,w6,w7,k1,k2,dl1,dl2,g1,g2,sf,hm,b0,b1,b2,b3,q0s,q08]|with_reducible refine wX fun _=>?_|((with_reducible refine wY ?_ ?_); rfl)|fail)
      all_goals (rw [q0t]; refine ih (2*root+2) (Sort.swp d (first+root) (first+(2*root+2))) n k (by omega) (by omega) (by rw [q0p]; exact hd) (q0v ho (by omega) (by omega)) (Nat.le_refl n) (by omega) R _ ?_ hR; simp only [go_sem,hs])
    | false =>
     rw [hl1] at dl1 hR
     rw [if_neg (by simp)] at hR
     have k2:=q0j c1 c2 t h ho (i:=first+root) (j:=first+(2*root+1)) (by omega) (by omega)
     have dl2:=@q0g t d[first+root]! d[first+(2*root+1)]!
     have sf:=q0y hd b0 b1
     cases hl2:ltR t d[first+root]! d[first+(2*root+1)]! with
     | false =>
      rw [hl2] at dl2 hR
      rw [if_pos (by simp)] at hR
      (repeat' first|simp only [il110l0_go,il110l0b,go_sem,hs,d1,d2,w1,w2,w3,w4,w5,w6,w7,k1,k2,dl1,dl2,g1,g2,sf,hm,b0,b1,b2,b3]|with_reducible refine wX fun _=>?_|((with_reducible refine wY ?_ ?_); rfl)|fail)
      all_goals exact hR _ _ m (.inr rfl) hm
     | true =>
      rw [hl2] at dl2 hR
      rw [if_neg (by simp)] at hR
      (repeat' first|simp only [il110l0_go,il110l0b,go_sem,hs,d1,d2,w1,w2,w3,w4,w5,w6,w7,k1,k2,dl1,dl2,g1,g2,sf,hm,b0,b1,b2,b3,q0s,q08]|with_reducible refine wX fun _=>?_|((with_reducible refine wY ?_ ?_); rfl)|fail)
      all_goals (rw [q0t]; refine ih (2*root+1) (Sort.swp d (first+root) (first+(2*root+1))) n k (by omega) (by omega) (by rw [q0p]; exact hd) (q0v ho (by omega) (by omega)) (Nat.le_refl n) (by omega) R _ ?_ hR; simp only [go_sem,hs])
   ·have d2:decide (((2*root+2:Nat):Int) < ((hi:Nat):Int))=false:=decide_eq_false (by omega)
    rw [if_neg (by simp [h2])] at hR
    have k2:=q0j c1 c2 t h ho (i:=first+root) (j:=first+(2*root+1)) (by omega) (by omega)
    have dl2:=@q0g t d[first+root]! d[first+(2*root+1)]!
    have sf:=q0y hd b0 b1
    cases hl2:ltR t d[first+root]! d[first+(2*root+1)]! with
    | false =>
     rw [hl2] at dl2 hR
     rw [if_pos (by simp)] at hR
     (repeat' first|simp only [il110l0_go,il110l0b,go_sem,hs,d1,d2,w1,w2,w3,w4,w5,w6,w7,k2,dl2,sf,hm,b0,b1]|with_reducible refine wX fun _=>?_|((with_reducible refine wY ?_ ?_); rfl)|fail)
     all_goals exact hR _ _ m (.inr rfl) hm
    | true =>
     rw [hl2] at dl2 hR
     rw [if_neg (by simp)] at hR
     (repeat' first|simp only [il110l0_go,il110l0b,go_sem,hs,d1,d2,w1,w2,w3,w4,w5,w6,w7,k2,dl2,sf,hm,b0,b1,q0s,q08]|with_reducible refine wX fun _=>?_|((with_reducible refine wY ?_ ?_); rfl)|fail)
     all_goals (rw [q0t]; refine ih (2*root+1) (Sort.swp d (first+root) (first+(2*root+1))) n k (by omega) (by omega) (by rw [q0p]; exact hd) (q0v ho (by omega) (by omega)) (Nat.le_refl n) (by omega) R _ ?_ hR; simp only [go_sem,hs])
omit h in
theorem q7c (hi first root:Nat) (d:Rts) (hd:first+hi≤d.size) (ho:okD t d):(Sort.siftDown (ltR t) hi first root d).size=d.size∧okD t (Sort.siftDown (ltR t) hi first root d):=by
 fun_induction Sort.siftDown (ltR t) hi first root d with
 | case1=>exact ⟨rfl,ho⟩
 | case2=>exact ⟨rfl,ho⟩
 | case3 root d h1 h2 h3 h4 ih =>
  obtain ⟨i1,i2⟩:=ih (by rw [q0p]; exact hd) (q0v ho (by omega) (by omega))
  exact ⟨by rw [i1,q0p],i2⟩
 | case4=>exact ⟨rfl,ho⟩
 | case5=>exact ⟨rfl,ho⟩
 | case6 root d h1 h2 h3 ih =>
  obtain ⟨i1,i2⟩:=ih (by rw [q0p]; exact hd) (q0v ho (by omega) (by omega))
  exact ⟨by rw [i1,q0p],i2⟩
theorem q7d (n lo hi first:Nat) (J:List (Value × Nat)) (nn dd:Nat) (hn:n≤4000000000000000000) (hnn:n < nn) (hfh:first+hi≤n) (hlo:lo≤hi) (d:Rts) (m:Nat) (hd:d.size=n) (ho:okD t d) (hm:m≤n) (Q:AV→Heap→Prop)
  (hQ:∀ m',m'≤n→Q (.t (.tup [])) (hS (Sort.siftDown (ltR t) hi first lo d) m' J)) :
  oB (inl Try.prog pol (ans Try.prog pol) nn (dd+1) (.fn 110) [.ms 0 n 0 n 1 false,.t (I (lo:Nat)),.t (I (hi:Nat)),.t (I (first:Nat)),.t (cmF c1 c2 t)] (hS d m J)) Q:=by
 with_reducible refine q0i il110_eq ?_ ?_
 ·exact Nat.le_of_ble_eq_true rfl
 (repeat' first|simp only [il110c,go_sem,q01]|with_reducible refine wX fun _=>?_|((with_reducible refine wY ?_ ?_); rfl)|fail)
 refine qi4 c1 c2 t h n first hi J _ nn hn hfh (hi - lo) lo d m nn (by omega) (by omega) hd ho hm (by omega) _ _ (by simp only [go_sem]) ?_
 intro x e m1 hx hm1
 rcases hx with rfl|rfl
 ·(repeat' first|simp only [il110c,go_sem,q01]|with_reducible refine wX fun _=>?_|((with_reducible refine wY ?_ ?_); rfl)|fail)
  all_goals exact hQ m1 hm1
 ·(repeat' first|simp only [il110c,go_sem,q01]|with_reducible refine wX fun _=>?_|((with_reducible refine wY ?_ ?_); rfl)|fail)
  all_goals exact hQ m1 hm1
theorem qi5 (n hi first:Nat) (J:List (Value × Nat)) (nn dd:Nat) (hn:n≤4000000000000000000) (hnn:n < nn) (hfh:first+hi≤n) (d:Rts) (m:Nat) (hd:d.size=n) (ho:okD t d) (hm:m≤n) (Q:AV→Heap→Prop)
  (hQ:∀ m',m'≤n→Q (.t (.tup [])) (hS (Sort.siftDown (ltR t) hi first 0 d) m' J)) :
  oB (inl Try.prog pol (ans Try.prog pol) nn (dd+1) (.fn 110) [.ms 0 n 0 n 1 false,.t (I 0),.t (I (hi:Nat)),.t (I (first:Nat)),.t (cmF c1 c2 t)] (hS d m J)) Q:=by
 have k:=@q7d c1 c2 t h n 0 hi first J nn dd hn hnn hfh (Nat.zero_le _) d m hd ho hm Q hQ
 have e0:((0:Nat):Int)=0:=rfl
 rw [e0] at k
 with_reducible exact k
theorem qi6 (n first hi:Nat) (x9:T) (J:List (Value × Nat)) (nn dd:Nat) (hn:n≤4000000000000000000) (hnn:n < nn) (hfh:first+hi≤n):∀ (r:Nat) (d:Rts) (m k:Nat),r≤hi→d.size=n→okD t d→m≤n→r < k→∀ (R:Xit→FEnv→Heap→Prop) (e:FEnv),
  (e 0=.ms 0 n 0 n 1 false∧e 3=.t (cmF c1 c2 t)∧e 8=.t (I (first:Nat))∧e 9=.t x9∧e 10=.t (I (hi:Nat))∧e 11=.t (I (((r:Nat):Int) - 1))) →
  (∀ e m',m'≤n→(Sort.heapBuild (ltR t) hi first r d).size=n→okD t (Sort.heapBuild (ltR t) hi first r d)→(e 0=.ms 0 n 0 n 1 false∧e 3=.t (cmF c1 c2 t)∧e 8=.t (I (first:Nat))∧e 9=.t x9∧e 10=.t (I (hi:Nat)))→R (.exit 0) e (hS (Sort.heapBuild (ltR t) hi first r d) m' J)) →
  wpIter (J.length+1) (some [0,3,8,9,10,11]) (wc Try.prog pol (ans Try.prog pol) (inl Try.prog pol (ans Try.prog pol) nn (dd+1)) nn 95 il95l0) R k e (hS d m J):=by
 intro r
 induction r with
 | zero =>
  intro d m k hr hd ho hm hk R e hs hR
  obtain ⟨k,rfl⟩:∃ q,k=q+1:=⟨k - 1,by omega⟩
  have d1:decide ((0:Int)≤0 - 1)=false:=rfl
  rw [q07]
  (repeat' first|simp only [il95l0_go,il95l0b,go_sem,hs,d1]|with_reducible refine wX fun _=>?_|((with_reducible refine wY ?_ ?_); rfl)|fail)
  all_goals (refine hR _ m hm hd ho ?_; simp only [go_sem,hs])
 | succ r ih =>
  intro d m k hr hd ho hm hk R e hs hR
  obtain ⟨k,rfl⟩:∃ q,k=q+1:=⟨k - 1,by omega⟩
  have ec:((r+1:Nat):Int) - 1=((r:Nat):Int):=by omega
  rw [ec] at hs
  have d1:decide ((0:Int)≤((r:Nat):Int))=true:=decide_eq_true (by omega)
  have w1:IntKind.i64.wrap (((r:Nat):Int) - 1)=((r:Nat):Int) - 1:=q00 (by omega) (by omega)
  obtain ⟨s1,s2⟩:=q7c t hi first r d (by omega) ho
  rw [q07]
  (repeat' first|simp only [il95l0_go,il95l0b,go_sem,hs,d1,q01]|with_reducible refine wX fun _=>?_|((with_reducible refine wY ?_ ?_); rfl)|fail)
  with_reducible refine @q7d c1 c2 t h n r hi first J nn dd hn hnn hfh ?_ d m hd ho hm _ ?_
  ·omega
  intro m1 hm1
  (repeat' first|simp only [il95l0_go,il95l0b,go_sem,hs,w1,q01]|with_reducible refine wX fun _=>?_|((with_reducible refine wY ?_ ?_); rfl)|fail)
  all_goals (refine ih _ m1 k (by omega) (s1.trans hd) s2 hm1 (by omega) R _ ?_ hR; simp only [go_sem,hs,w1])
theorem qi7 (n first:Nat) (J:List (Value × Nat)) (nn dd:Nat) (hn:n≤4000000000000000000) (hnn:n < nn):∀ (r:Nat) (d:Rts) (m k:Nat),first+r≤n→d.size=n→okD t d→m≤n→r < k→∀ (R:Xit→FEnv→Heap→Prop) (e:FEnv),
  (e 0=.ms 0 n 0 n 1 false∧e 3=.t (cmF c1 c2 t)∧e 8=.t (I (first:Nat))∧e 9=.t (I 0)∧e 12=.t (I (((r:Nat):Int) - 1))) →
  (∀ e m',m'≤n→R (.exit 2) e (hS (Sort.heapPop (ltR t) first r d) m' J)) →
  wpIter (J.length+1) (some [0,3,8,9,12]) (wc Try.prog pol (ans Try.prog pol) (inl Try.prog pol (ans Try.prog pol) nn (dd+1)) nn 95 il95l1) R k e (hS d m J):=by
 intro r
 induction r with
 | zero =>
  intro d m k hr hd ho hm hk R e hs hR
  obtain ⟨k,rfl⟩:∃ q,k=q+1:=⟨k - 1,by omega⟩
  have d1:decide ((0:Int)≤0 - 1)=false:=rfl
  rw [q07]
  (repeat' first|simp only [il95l1_go,il95l1b,go_sem,hs,d1]|with_reducible refine wX fun _=>?_|((with_reducible refine wY ?_ ?_); rfl)|fail)
  all_goals exact hR _ m hm
 | succ r ih =>
  intro d m k hr hd ho hm hk R e hs hR
  obtain ⟨k,rfl⟩:∃ q,k=q+1:=⟨k - 1,by omega⟩
  have ec:((r+1:Nat):Int) - 1=((r:Nat):Int):=by omega
  rw [ec] at hs
  have d1:decide ((0:Int)≤((r:Nat):Int))=true:=decide_eq_true (by omega)
  have w1:IntKind.i64.wrap (((r:Nat):Int) - 1)=((r:Nat):Int) - 1:=q00 (by omega) (by omega)
  have w2:IntKind.i64.wrap (((first:Nat):Int)+((r:Nat):Int))=((first+r:Nat):Int):=q00 (by omega) (by omega)
  have b0:first < n:=by omega
  have b1:first+r < n:=by omega
  have sf:=q0y hd b0 b1
  have hd2:(Sort.swp d first (first+r)).size=n:=by rw [q0p]; exact hd
  have ho2:=q0v ho (i:=first) (j:=first+r) (by omega) (by omega)
  obtain ⟨s1,s2⟩:=q7c t r first 0 (Sort.swp d first (first+r)) (by omega) ho2
  rw [q07,hS_eq]
  (repeat' first|simp only [il95l1_go,il95l1b,go_sem,hs,d1,w2,sf,hm,b0,b1,q0s,q08]|with_reducible refine wX fun _=>?_|((with_reducible refine wY ?_ ?_); rfl)|fail)
  rw [q0t]
  with_reducible refine @qi5 c1 c2 t h n r first J nn dd hn hnn ?_ (Sort.swp d first (first+r)) n hd2 ho2 (Nat.le_refl n) _ ?_
  ·omega
  intro m1 hm1
  (repeat' first|simp only [il95l1_go,il95l1b,go_sem,hs,w1,q01]|with_reducible refine wX fun _=>?_|((with_reducible refine wY ?_ ?_); rfl)|fail)
  all_goals (refine ih _ m1 k (by omega) (s1.trans hd2) s2 hm1 (by omega) R _ ?_ hR; simp only [go_sem,hs,w1])
theorem qi8 (n a b:Nat) (J:List (Value × Nat)) (nn dd:Nat) (hn:n≤4000000000000000000) (hnn:n < nn) (hab:a < b) (hb:b≤n) (d:Rts) (m:Nat) (hd:d.size=n) (ho:okD t d) (hm:m≤n) (Q:AV→Heap→Prop)
  (hQ:∀ m',m'≤n→Q (.t (.tup [])) (hS (Sort.heapSort (ltR t) d a b) m' J)) :
  oB (inl Try.prog pol (ans Try.prog pol) nn (dd+2) (.fn 95) [.ms 0 n 0 n 1 false,.t (I (a:Nat)),.t (I (b:Nat)),.t (cmF c1 c2 t)] (hS d m J)) Q:=by
 have w1:IntKind.i64.wrap (((b:Nat):Int) - ((a:Nat):Int))=((b - a:Nat):Int):=by rw [q00 (by omega) (by omega)]; omega
 have w2:IntKind.i64.wrap (((b - a:Nat):Int) - 1)=((b - a - 1:Nat):Int):=by rw [q00 (by omega) (by omega)]; omega
 have w3:IntKind.i64.wrap (Int.tdiv ((b - a - 1:Nat):Int) 2)=(((b - a - 1) / 2:Nat):Int):=by rw [tdiv2]; exact q00 (by omega) (by omega)
 have ec:(((b - a - 1) / 2:Nat):Int)=(((b - a - 1) / 2+1:Nat):Int) - 1:=by omega
 have ed:((b - a - 1:Nat):Int)=((b - a:Nat):Int) - 1:=by omega
 have hq:(b - a - 1) / 2+1≤b - a:=by omega
 have hab2:a+(b - a)≤n:=by omega
 rw [Sort.heapSort] at hQ
 generalize b - a=hi at *
 generalize (hi - 1) / 2=q at *
 with_reducible refine q0i il95_eq ?_ ?_
 ·exact Nat.le_of_ble_eq_true rfl
 (repeat' first|simp only [il95c,go_sem,w1,w2,w3,q01]|with_reducible refine wX fun _=>?_|((with_reducible refine wY ?_ ?_); rfl)|fail)
 refine qi6 c1 c2 t h n a hi (I 0) J nn dd hn hnn hab2 (q+1) d m nn hq hd ho hm (by omega) _ _ (by simp only [go_sem,ec]) ?_
 intro e1 m1 hm1 s1 s2 he1
 (repeat' first|simp only [il95c,go_sem,he1,w1,w2,w3,q01]|with_reducible refine wX fun _=>?_|((with_reducible refine wY ?_ ?_); rfl)|fail)
 refine qi7 c1 c2 t h n a J nn dd hn hnn hi _ m1 nn hab2 s1 s2 hm1 (by omega) _ _ (by simp only [go_sem,ed,he1]) ?_
 intro e2 m2 hm2
 (repeat' first|simp only [il95c,go_sem,q01]|with_reducible refine wX fun _=>?_|((with_reducible refine wY ?_ ?_); rfl)|fail)
 all_goals exact hQ m2 hm2
end
end Go.Proofs.Ytnjaokhdeaeegaa
