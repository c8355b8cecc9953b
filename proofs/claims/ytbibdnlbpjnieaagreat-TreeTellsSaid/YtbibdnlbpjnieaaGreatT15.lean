/- Part 15 of the proof of TreeTells. -/
import Derived.Test.YtbibdnlbpjnieaaGreatT14
set_option linter.all false
set_option maxRecDepth 100000
set_option maxHeartbeats 4000000
namespace Go.Proofs.YtbibdnlbpjnieaaGreat
open Go Go.Abs
abbrev I (n:Int):T:=.sc (.int .i64 n)
abbrev B (b:Bool):T:=.sc (.bool b)
abbrev bidP (p n:Int):Prop:=(0≤p∧p≤15)∧(0≤n∧n≤11)
abbrev rankP (a b c d e f:Int):Prop:=bidP a b∧bidP d e∧(0≤c∧c≤1048576)∧(0≤f∧f≤47)
theorem q2q (v a b:Int):ans Tryz.prog pol 137 [I v,I a,I b]=some (B (decide (a≤v∧v≤b))):=by
 refine q00 1 1 il137_eq (Nat.le_of_ble_eq_true rfl) ?_
 (have hc:=hc0; repeat' first|simp only [hc,il137c,go_sem]|((with_reducible first|refine wG (fun hc=>?_) fun hc=>?_|refine wC (fun hc=>?_) fun hc=>?_) <;> try simp only [bq1,bq2] at hc)|with_reducible refine wX fun _=>?_|((with_reducible refine wY ?_ ?_); rfl)|fail)
 (all_goals (first|rfl|(simp_all ; done)|(simp_all  <;> (first|done|(intros; omega)|(rw [decide_eq_false_iff_not]; intros; omega)|(rw [decide_eq_true_eq]; intros; omega)|(split <;> first|done|(intros; omega)|(simp_all <;> omega))))))
theorem qer (p n:Int):ans Tryz.prog pol 136 [.agg [I p,I n]]=some (B (decide (bidP p n))):=by
 refine q00 1 1 il136_eq (Nat.le_of_ble_eq_true rfl) ?_
 (have hc:=hc0; repeat' first|simp only [hc,il136c,go_sem,q2q]|((with_reducible first|refine wG (fun hc=>?_) fun hc=>?_|refine wC (fun hc=>?_) fun hc=>?_) <;> try simp only [bq1,bq2] at hc)|with_reducible refine wX fun _=>?_|((with_reducible refine wY ?_ ?_); rfl)|fail)
 (all_goals (first|rfl|(simp_all [bidP]; done)|(simp_all [bidP] <;> (first|done|(intros; omega)|(rw [decide_eq_false_iff_not]; intros; omega)|(rw [decide_eq_true_eq]; intros; omega)|(split <;> first|done|(intros; omega)|(simp_all <;> omega))))))
theorem qes (p:Int):ans Tryz.prog pol 138 [I p]=some (B (decide (0≤p∧p≤47))):=by
 refine q00 1 1 il138_eq (Nat.le_of_ble_eq_true rfl) ?_
 (have hc:=hc0; repeat' first|simp only [hc,il138c,go_sem,q2q]|((with_reducible first|refine wG (fun hc=>?_) fun hc=>?_|refine wC (fun hc=>?_) fun hc=>?_) <;> try simp only [bq1,bq2] at hc)|with_reducible refine wX fun _=>?_|((with_reducible refine wY ?_ ?_); rfl)|fail)
theorem q6b (a b c d e f:Int):ans Tryz.prog pol 113 [.agg [I a,I b,I c,I d,I e,I f]]=some (I (if rankP a b c d e f then 0 else 280)):=by
 refine q00 1 1 il113_eq (Nat.le_of_ble_eq_true rfl) ?_
 (have hc:=hc0; repeat' first|simp only [hc,il113c,go_sem,q2q,qer,qes]|((with_reducible first|refine wG (fun hc=>?_) fun hc=>?_|refine wC (fun hc=>?_) fun hc=>?_) <;> try simp only [bq1,bq2] at hc)|with_reducible refine wX fun _=>?_|((with_reducible refine wY ?_ ?_); rfl)|fail)
 (all_goals (first|rfl|(simp_all [rankP]; done)|(simp_all [rankP] <;> (first|done|(intros; omega)|(rw [decide_eq_false_iff_not]; intros; omega)|(rw [decide_eq_true_eq]; intros; omega)|(split <;> first|done|(intros; omega)|(simp_all <;> omega))))))
theorem qet (a b c d e f g:Int):ans Tryz.prog pol 114 [.agg [I a,I b,I c,I d,I e,I f,I g]]=some (I (if rankP a b c d e f∧(0≤g∧g≤20) then 0 else 280)):=by
 refine q00 1 1 il114_eq (Nat.le_of_ble_eq_true rfl) ?_
 (have hc:=hc0; repeat' first|simp only [hc,il114c,go_sem,q2q,q6b]|((with_reducible first|refine wG (fun hc=>?_) fun hc=>?_|refine wC (fun hc=>?_) fun hc=>?_) <;> try simp only [bq1,bq2] at hc)|with_reducible refine wX fun _=>?_|((with_reducible refine wY ?_ ?_); rfl)|fail)
 (all_goals (first|rfl|(simp_all ; done)|(simp_all  <;> (first|done|(intros; omega)|(rw [decide_eq_false_iff_not]; intros; omega)|(rw [decide_eq_true_eq]; intros; omega)|(split <;> first|done|(intros; omega)|(simp_all <;> omega))))))
theorem q6c (p n:Int):ans Tryz.prog pol 93 [.agg [I p,I n]]=some (B (decide (bidP p n))):=by
 refine q00 1 1 il93_eq (Nat.le_of_ble_eq_true rfl) ?_
 (have hc:=hc0; repeat' first|simp only [hc,il93c,go_sem]|((with_reducible first|refine wG (fun hc=>?_) fun hc=>?_|refine wC (fun hc=>?_) fun hc=>?_) <;> try simp only [bq1,bq2] at hc)|with_reducible refine wX fun _=>?_|((with_reducible refine wY ?_ ?_); rfl)|fail)
 (all_goals (first|rfl|(simp_all [bidP]; done)|(simp_all [bidP] <;> (first|done|(intros; omega)|(rw [decide_eq_false_iff_not]; intros; omega)|(rw [decide_eq_true_eq]; intros; omega)|(split <;> first|done|(intros; omega)|(simp_all <;> omega))))))
theorem qeu (a b c d e f:Int):ans Tryz.prog pol 126 [.agg [I a,I b,I c,I d,I e,I f]]=some (B (decide (rankP a b c d e f))):=by
 refine q00 1 1 il126_eq (Nat.le_of_ble_eq_true rfl) ?_
 (have hc:=hc0; repeat' first|simp only [hc,il126c,go_sem,q6c]|((with_reducible first|refine wG (fun hc=>?_) fun hc=>?_|refine wC (fun hc=>?_) fun hc=>?_) <;> try simp only [bq1,bq2] at hc)|with_reducible refine wX fun _=>?_|((with_reducible refine wY ?_ ?_); rfl)|fail)
 (all_goals (first|rfl|(simp_all [rankP]; done)|(simp_all [rankP] <;> (first|done|(intros; omega)|(rw [decide_eq_false_iff_not]; intros; omega)|(rw [decide_eq_true_eq]; intros; omega)|(split <;> first|done|(intros; omega)|(simp_all <;> omega))))))
theorem qev (a b c d e f g:Int):ans Tryz.prog pol 94 [.agg [I a,I b,I c,I d,I e,I f,I g]]=some (B (decide (rankP a b c d e f∧(0≤g∧g≤20)))):=by
 refine q00 1 1 il94_eq (Nat.le_of_ble_eq_true rfl) ?_
 (have hc:=hc0; repeat' first|simp only [hc,il94c,go_sem,qeu]|((with_reducible first|refine wG (fun hc=>?_) fun hc=>?_|refine wC (fun hc=>?_) fun hc=>?_) <;> try simp only [bq1,bq2] at hc)|with_reducible refine wX fun _=>?_|((with_reducible refine wY ?_ ?_); rfl)|fail)
 (all_goals (first|rfl|(simp_all ; done)|(simp_all  <;> (first|done|(intros; omega)|(rw [decide_eq_false_iff_not]; intros; omega)|(rw [decide_eq_true_eq]; intros; omega)|(split <;> first|done|(intros; omega)|(simp_all <;> omega))))))
theorem qew (a:Int):ans Tryz.prog pol 142 [I a]=some (B false):=by
 refine q00 1 1 il142_eq (Nat.le_of_ble_eq_true rfl) ?_
 (have hc:=hc0; repeat' first|simp only [hc,il142c,go_sem]|((with_reducible first|refine wG (fun hc=>?_) fun hc=>?_|refine wC (fun hc=>?_) fun hc=>?_) <;> try simp only [bq1,bq2] at hc)|with_reducible refine wX fun _=>?_|((with_reducible refine wY ?_ ?_); rfl)|fail)
theorem qex (a b:Int):ans Tryz.prog pol 125 [I a,I b]=some (I (cmp3 a b)):=by
 refine q00 1 1 il125_eq (Nat.le_of_ble_eq_true rfl) ?_
 (have hc:=hc0; repeat' first|simp only [hc,il125c,go_sem,qew]|((with_reducible first|refine wG (fun hc=>?_) fun hc=>?_|refine wC (fun hc=>?_) fun hc=>?_) <;> try simp only [bq1,bq2] at hc)|with_reducible refine wX fun _=>?_|((with_reducible refine wY ?_ ?_); rfl)|fail)
 (all_goals (first|rfl|(simp_all [cmp3]; done)|(simp_all [cmp3] <;> (first|done|(intros; omega)|(rw [decide_eq_false_iff_not]; intros; omega)|(rw [decide_eq_true_eq]; intros; omega)|(split <;> first|done|(intros; omega)|(simp_all <;> omega))))))
theorem qey (a b c d e f:Int):ans Tryz.prog pol 124 [.agg [I a,I b,I c,I d,I e,I f]]=some (.agg [I a,I b,I c,I d,I e,I f]):=by
 refine q00 1 1 il124_eq (Nat.le_of_ble_eq_true rfl) ?_
 (have hc:=hc0; repeat' first|simp only [hc,il124c,go_sem]|((with_reducible first|refine wG (fun hc=>?_) fun hc=>?_|refine wC (fun hc=>?_) fun hc=>?_) <;> try simp only [bq1,bq2] at hc)|with_reducible refine wX fun _=>?_|((with_reducible refine wY ?_ ?_); rfl)|fail)
theorem qez (a b c d e f a' b' c' d' e' f':Int):ans Tryz.prog pol 96 [.agg [I a,I b,I c,I d,I e,I f],.agg [I a',I b',I c',I d',I e',I f']]=some (B (decide (cmpL [a,b,c,d,e,f] [a',b',c',d',e',f'] < 0))):=by
 refine q00 1 1 il96_eq (Nat.le_of_ble_eq_true rfl) ?_
 (have hc:=hc0; repeat' first|simp only [hc,il96c,go_sem]|((with_reducible first|refine wG (fun hc=>?_) fun hc=>?_|refine wC (fun hc=>?_) fun hc=>?_) <;> try simp only [bq1,bq2] at hc)|with_reducible refine wX fun _=>?_|((with_reducible refine wY ?_ ?_); rfl)|fail)
 (all_goals (first|rfl|(simp_all [cmpL,cmp3]; done)|(simp_all [cmpL,cmp3] <;> (first|done|(intros; omega)|(rw [decide_eq_false_iff_not]; intros; omega)|(rw [decide_eq_true_eq]; intros; omega)|(split <;> first|done|(intros; omega)|(simp_all <;> omega))))))
theorem q6d (a b c d e f a' b' c' d' e' f':Int):ans Tryz.prog pol 91 [.agg [I a,I b,I c,I d,I e,I f],.agg [I a',I b',I c',I d',I e',I f']]=some (I (cmpL [a,b,c,d,e,f] [a',b',c',d',e',f'])):=by
 refine q00 10 1 il91_eq (Nat.le_of_ble_eq_true rfl) ?_
 (have hc:=hc0; repeat' first|simp only [hc,il91c,go_sem,qey,qex]|((with_reducible first|refine wG (fun hc=>?_) fun hc=>?_|refine wC (fun hc=>?_) fun hc=>?_) <;> try simp only [bq1,bq2] at hc)|with_reducible refine wX fun _=>?_|((with_reducible refine wY ?_ ?_); rfl)|((with_reducible refine q0C (body:=wc _ _ _ _ _ _ il91l0) ?_ ?_); exact Nat.le_of_ble_eq_true rfl; simp only [il91l0_go,il91l0b])|fail)
 all_goals simp_all [cmpL,qeo]
end Go.Proofs.YtbibdnlbpjnieaaGreat
namespace Go.Proofs.YtbibdnlbpjnieaaGreat
open Go Go.Abs
structure Lk where
 a:Int
 b:Int
 per:Int
 delay:Int
 deriving DecidableEq
def zLk:Lk:=⟨0,0,0,0⟩
abbrev lkT (l:Lk):T:=.agg [I l.a,I l.b,I l.per,I l.delay]
def encK (l:Lk):T:=lkT l
theorem q0k (l:Lk):(encK l).cells=[I l.a,I l.b,I l.per,I l.delay]:=rfl
structure Tpo where
 nodes:Int
 station:List Bool
 links:List Lk
abbrev tpC (c1 c2:Bool) (t:Tpo):List T:=[I t.nodes,.sl c1 1 (t.station.map B),.sl c2 4 (t.links.map encK)]
abbrev tpT (c1 c2:Bool) (t:Tpo):T:=.agg (tpC c1 c2 t)
def lnk (t:Tpo) (i:Nat):Lk:=t.links[i]?.getD zLk
def stA (t:Tpo) (n:Nat):Bool:=t.station[n]?.getD false
abbrev nodeP (t:Tpo) (n:Int):Prop:=0≤n∧n < t.nodes
def lk1 (t:Tpo) (l:Lk):Bool:=decide (nodeP t l.a∧nodeP t l.b∧l.a≠l.b)
def lk2 (t:Tpo) (l:Lk):Bool:=!(stA t l.a.toNat && stA t l.b.toNat)
def joins (l m:Lk):Bool:=decide (l.a=m.a∧l.b=m.b∨l.a=m.b∧l.b=m.a)
def lk3 (t:Tpo) (i:Nat) (l:Lk):Bool:=(t.links.take i).all (fun m=>!joins l m)
def lk4 (l:Lk):Bool:=decide ((1≤l.per∧l.per≤1000)∧0≤l.delay∧l.delay≤10000)
def lkOk (t:Tpo) (i:Nat) (l:Lk):Bool:=lk1 t l && (lk2 t l && (lk3 t i l && lk4 l))
def soundL (t:Tpo):Bool:=(List.range t.links.length).all (fun i=>lkOk t i (lnk t i))
theorem q6e (c1 c2:Bool) (t:Tpo) (n:Int):ans Tryz.prog pol 106 [tpT c1 c2 t,I n]=some (B (decide (nodeP t n))):=by
 refine q00 1 1 il106_eq (Nat.le_of_ble_eq_true rfl) ?_
 by_cases h:0≤n
 ·have e0:decide (0≤n)=true:=decide_eq_true h
  have e1:decide (0≤n∧n < t.nodes)=decide (n < t.nodes):=by simp [h]
  rw [e1]
  (have hc:=hc0; repeat' first|simp only [hc,il106c,go_sem,e0]|((with_reducible first|refine wG (fun hc=>?_) fun hc=>?_|refine wC (fun hc=>?_) fun hc=>?_) <;> try simp only [bq1,bq2] at hc)|with_reducible refine wX fun _=>?_|((with_reducible refine wY ?_ ?_); rfl)|fail)
 ·have e0:decide (0≤n)=false:=decide_eq_false h
  rw [decide_eq_false (fun k=>h k.1)]
  (have hc:=hc0; repeat' first|simp only [hc,il106c,go_sem,e0]|((with_reducible first|refine wG (fun hc=>?_) fun hc=>?_|refine wC (fun hc=>?_) fun hc=>?_) <;> try simp only [bq1,bq2] at hc)|with_reducible refine wX fun _=>?_|((with_reducible refine wY ?_ ?_); rfl)|fail)
theorem qeA (c1 c2:Bool) (t:Tpo) (i:Nat) (hi:i < t.links.length):ans Tryz.prog pol 105 [I (i:Nat),.ip (tpC c1 c2 t)]=some (B (lk1 t (lnk t i))):=by
 have hg:(t.links.map encK)[i]? = some (encK (lnk t i)):=by simp [lnk,hi]
 have k1:=q6e c1 c2 t (lnk t i).a
 have k2:=q6e c1 c2 t (lnk t i).b
 generalize lnk t i=l at *
 refine q00 1 1 il105_eq (Nat.le_of_ble_eq_true rfl) ?_
 simp only [lk1]
 by_cases h1:nodeP t l.a
 ·by_cases h2:nodeP t l.b
  ·have e1:=decide_eq_true h1
   have e2:=decide_eq_true h2
   by_cases h3:l.a=l.b
   ·have e3:=decide_eq_true h3
    rw [decide_eq_false (fun h=>h.2.2 h3)]
    (have hc:=hc0; repeat' first|simp only [hc,il105c,go_sem,hg,q0k,k1,k2,e1,e2,e3]|((with_reducible first|refine wG (fun hc=>?_) fun hc=>?_|refine wC (fun hc=>?_) fun hc=>?_) <;> try simp only [bq1,bq2] at hc)|with_reducible refine wX fun _=>?_|((with_reducible refine wY ?_ ?_); rfl)|fail)
   ·have e3:=decide_eq_false h3
    rw [decide_eq_true (⟨h1,h2,h3⟩:_∧_∧_)]
    (have hc:=hc0; repeat' first|simp only [hc,il105c,go_sem,hg,q0k,k1,k2,e1,e2,e3]|((with_reducible first|refine wG (fun hc=>?_) fun hc=>?_|refine wC (fun hc=>?_) fun hc=>?_) <;> try simp only [bq1,bq2] at hc)|with_reducible refine wX fun _=>?_|((with_reducible refine wY ?_ ?_); rfl)|fail)
  ·have e1:=decide_eq_true h1
   have e2:=decide_eq_false h2
   rw [decide_eq_false (fun h=>h2 h.2.1)]
   (have hc:=hc0; repeat' first|simp only [hc,il105c,go_sem,hg,q0k,k1,k2,e1,e2]|((with_reducible first|refine wG (fun hc=>?_) fun hc=>?_|refine wC (fun hc=>?_) fun hc=>?_) <;> try simp only [bq1,bq2] at hc)|with_reducible refine wX fun _=>?_|((with_reducible refine wY ?_ ?_); rfl)|fail)
 ·have e1:=decide_eq_false h1
  rw [decide_eq_false (fun h=>h1 h.1)]
  (have hc:=hc0; repeat' first|simp only [hc,il105c,go_sem,hg,q0k,k1,e1]|((with_reducible first|refine wG (fun hc=>?_) fun hc=>?_|refine wC (fun hc=>?_) fun hc=>?_) <;> try simp only [bq1,bq2] at hc)|with_reducible refine wX fun _=>?_|((with_reducible refine wY ?_ ?_); rfl)|fail)
theorem q0A (t:Tpo) {n:Int} (hs:(t.station.length:Int)=t.nodes) (h:nodeP t n):(t.station.map B)[n.toNat]? = some (B (stA t n.toNat))∧0≤n:=by
 obtain ⟨h1,h2⟩:=h
 have:n.toNat < t.station.length:=by omega
 exact ⟨by simp [stA,this],h1⟩
theorem qeB (c1 c2:Bool) (t:Tpo) (hs:(t.station.length:Int)=t.nodes) (i:Nat) (hi:i < t.links.length) (h1:lk1 t (lnk t i)=true):ans Tryz.prog pol 107 [I (i:Nat),.ip (tpC c1 c2 t)]=some (B (lk2 t (lnk t i))):=by
 have hg:(t.links.map encK)[i]? = some (encK (lnk t i)):=by simp [lnk,hi]
 obtain ⟨p1,p2,_⟩:=of_decide_eq_true h1
 obtain ⟨g1,q1⟩:=q0A t hs p1
 obtain ⟨g2,q2⟩:=q0A t hs p2
 generalize lnk t i=l at *
 refine q00 1 1 il107_eq (Nat.le_of_ble_eq_true rfl) ?_
 simp only [lk2]
 generalize stA t l.a.toNat=a at *
 generalize stA t l.b.toNat=b at *
 cases a <;> cases b
 all_goals (have hc:=hc0; repeat' first|simp only [hc,il107c,go_sem,hg,q0k,g1,g2,q1,q2]|((with_reducible first|refine wG (fun hc=>?_) fun hc=>?_|refine wC (fun hc=>?_) fun hc=>?_) <;> try simp only [bq1,bq2] at hc)|with_reducible refine wX fun _=>?_|((with_reducible refine wY ?_ ?_); rfl)|fail)
theorem qeC (c1 c2:Bool) (t:Tpo) (i:Nat) (hi:i < t.links.length):ans Tryz.prog pol 109 [I (i:Nat),.ip (tpC c1 c2 t)]=some (B (lk4 (lnk t i))):=by
 have hg:(t.links.map encK)[i]? = some (encK (lnk t i)):=by simp [lnk,hi]
 generalize lnk t i=l at *
 refine q00 1 1 il109_eq (Nat.le_of_ble_eq_true rfl) ?_
 simp only [lk4]
 (have hc:=hc0; repeat' first|simp only [hc,il109c,go_sem,hg,q0k]|((with_reducible first|refine wG (fun hc=>?_) fun hc=>?_|refine wC (fun hc=>?_) fun hc=>?_) <;> try simp only [bq1,bq2] at hc)|with_reducible refine wX fun _=>?_|((with_reducible refine wY ?_ ?_); rfl)|fail)
 (all_goals (first|rfl|(simp_all ; done)|(simp_all  <;> (first|done|(intros; omega)|(rw [decide_eq_false_iff_not]; intros; omega)|(rw [decide_eq_true_eq]; intros; omega)|(split <;> first|done|(intros; omega)|(simp_all <;> omega))))))
theorem qeD (c1 c2:Bool) (t:Tpo) (i:Nat) (hi:i < t.links.length) (hb:t.links.length≤100):ans Tryz.prog pol 108 [I (i:Nat),.ip (tpC c1 c2 t)]=some (B (lk3 t i (lnk t i))):=by
 have hg:(t.links.map encK)[i]? = some (encK (lnk t i)):=by simp [lnk,hi]
 have hle:i≤t.links.length:=Nat.le_of_lt hi
 have htk:(t.links.map encK).take i=(t.links.take i).map encK:=by rw [List.map_take]
 have hl:(t.links.take i).length=i:=by simp; omega
 simp only [lk3]
 generalize lnk t i=l at *
 generalize hq:t.links.take i=q at *
 refine q00 1000 1 il108_eq (Nat.le_of_ble_eq_true rfl) ?_
 (have hc:=hc0; repeat' first|simp only [hc,il108c,go_sem,hg,q0k,hle,htk]|((with_reducible first|refine wG (fun hc=>?_) fun hc=>?_|refine wC (fun hc=>?_) fun hc=>?_) <;> try simp only [bq1,bq2] at hc)|with_reducible refine wX fun _=>?_|((with_reducible refine wY ?_ ?_); rfl)|fail)
 generalize (c2 && decide (i=t.links.length))=cc
 refine q06 q encK (step:=fun _ m (_:Unit)=>if (!joins l m)=true then Ctl.go () else Ctl.out false) (fin:=fun _=>true)
  (St:=fun j _ e h=>(e 4=.ref 0 1 0 0∧e 15=.t (.sl cc 4 (q.map encK))∧e 16=.t (I (q.length:Nat))∧e 17=.t (I (j:Nat)))∧h=[.row 4 [.t (.agg [I l.a,I l.b,I l.per,I l.delay])] 1])
  (Ex:=fun r x e h=>r=true∧x=.exit 0∨r=false∧x=.ret∧e 3=.t (B false)) (s:=()) (by omega) ?_ ?_ (by omega) ?_ ?_
 ·intro j m _ e h Y R hm hj hx hget hlt hw ⟨hs,hh⟩ hk
  subst hh
  by_cases a1:l.a=m.a
  ·have d1:decide (l.a=m.a)=true:=decide_eq_true a1
   by_cases a2:l.b=m.b
   ·have d2:decide (l.b=m.b)=true:=decide_eq_true a2
    rw [if_neg (by rw [show joins l m=true from decide_eq_true (.inl ⟨a1,a2⟩)]; simp),q04] at hk
    (have hc:=hc0; repeat' first|simp only [hc,il108l0_go,il108l0b,go_sem,hs,hget,q0k,hlt,hw,d1,d2]|((with_reducible first|refine wG (fun hc=>?_) fun hc=>?_|refine wC (fun hc=>?_) fun hc=>?_) <;> try simp only [bq1,bq2] at hc)|with_reducible refine wX fun _=>?_|((with_reducible refine wY ?_ ?_); rfl)|fail)
    all_goals (refine hk _ _ _ (.inr ?_); simp only [go_sem])
   ·have d2:decide (l.b=m.b)=false:=decide_eq_false a2
    by_cases a3:l.a=m.b
    ·have d3:decide (l.a=m.b)=true:=decide_eq_true a3
     by_cases a4:l.b=m.a
     ·have d4:decide (l.b=m.a)=true:=decide_eq_true a4
      rw [if_neg (by rw [show joins l m=true from decide_eq_true (.inr ⟨a3,a4⟩)]; simp),q04] at hk
      (have hc:=hc0; repeat' first|simp only [hc,il108l0_go,il108l0b,go_sem,hs,hget,q0k,hlt,hw,d1,d2,d3,d4]|((with_reducible first|refine wG (fun hc=>?_) fun hc=>?_|refine wC (fun hc=>?_) fun hc=>?_) <;> try simp only [bq1,bq2] at hc)|with_reducible refine wX fun _=>?_|((with_reducible refine wY ?_ ?_); rfl)|fail)
      all_goals (refine hk _ _ _ (.inr ?_); simp only [go_sem])
     ·have d4:decide (l.b=m.a)=false:=decide_eq_false a4
      rw [if_pos (by rw [show joins l m=false from decide_eq_false (by omega)]; rfl),q01] at hk
      (have hc:=hc0; repeat' first|simp only [hc,il108l0_go,il108l0b,go_sem,hs,hget,q0k,hlt,hw,d1,d2,d3,d4]|((with_reducible first|refine wG (fun hc=>?_) fun hc=>?_|refine wC (fun hc=>?_) fun hc=>?_) <;> try simp only [bq1,bq2] at hc)|with_reducible refine wX fun _=>?_|((with_reducible refine wY ?_ ?_); rfl)|fail)
      all_goals (refine hk _ _ ⟨?_,rfl⟩; simp only [go_sem,hs,hw])
    ·have d3:decide (l.a=m.b)=false:=decide_eq_false a3
     rw [if_pos (by rw [show joins l m=false from decide_eq_false (by omega)]; rfl),q01] at hk
     (have hc:=hc0; repeat' first|simp only [hc,il108l0_go,il108l0b,go_sem,hs,hget,q0k,hlt,hw,d1,d2,d3]|((with_reducible first|refine wG (fun hc=>?_) fun hc=>?_|refine wC (fun hc=>?_) fun hc=>?_) <;> try simp only [bq1,bq2] at hc)|with_reducible refine wX fun _=>?_|((with_reducible refine wY ?_ ?_); rfl)|fail)
     all_goals (refine hk _ _ ⟨?_,rfl⟩; simp only [go_sem,hs,hw])
  ·have d1:decide (l.a=m.a)=false:=decide_eq_false a1
   by_cases a3:l.a=m.b
   ·have d3:decide (l.a=m.b)=true:=decide_eq_true a3
    by_cases a4:l.b=m.a
    ·have d4:decide (l.b=m.a)=true:=decide_eq_true a4
     rw [if_neg (by rw [show joins l m=true from decide_eq_true (.inr ⟨a3,a4⟩)]; simp),q04] at hk
     (have hc:=hc0; repeat' first|simp only [hc,il108l0_go,il108l0b,go_sem,hs,hget,q0k,hlt,hw,d1,d3,d4]|((with_reducible first|refine wG (fun hc=>?_) fun hc=>?_|refine wC (fun hc=>?_) fun hc=>?_) <;> try simp only [bq1,bq2] at hc)|with_reducible refine wX fun _=>?_|((with_reducible refine wY ?_ ?_); rfl)|fail)
     all_goals (refine hk _ _ _ (.inr ?_); simp only [go_sem])
    ·have d4:decide (l.b=m.a)=false:=decide_eq_false a4
     rw [if_pos (by rw [show joins l m=false from decide_eq_false (by omega)]; rfl),q01] at hk
     (have hc:=hc0; repeat' first|simp only [hc,il108l0_go,il108l0b,go_sem,hs,hget,q0k,hlt,hw,d1,d3,d4]|((with_reducible first|refine wG (fun hc=>?_) fun hc=>?_|refine wC (fun hc=>?_) fun hc=>?_) <;> try simp only [bq1,bq2] at hc)|with_reducible refine wX fun _=>?_|((with_reducible refine wY ?_ ?_); rfl)|fail)
     all_goals (refine hk _ _ ⟨?_,rfl⟩; simp only [go_sem,hs,hw])
   ·have d3:decide (l.a=m.b)=false:=decide_eq_false a3
    rw [if_pos (by rw [show joins l m=false from decide_eq_false (by omega)]; rfl),q01] at hk
    (have hc:=hc0; repeat' first|simp only [hc,il108l0_go,il108l0b,go_sem,hs,hget,q0k,hlt,hw,d1,d3]|((with_reducible first|refine wG (fun hc=>?_) fun hc=>?_|refine wC (fun hc=>?_) fun hc=>?_) <;> try simp only [bq1,bq2] at hc)|with_reducible refine wX fun _=>?_|((with_reducible refine wY ?_ ?_); rfl)|fail)
    all_goals (refine hk _ _ ⟨?_,rfl⟩; simp only [go_sem,hs,hw])
 ·intro _ e h Y R hlt ⟨hs,hh⟩ hk
  subst hh
  (have hc:=hc0; repeat' first|simp only [hc,il108l0_go,il108l0b,go_sem,hs,hlt]|((with_reducible first|refine wG (fun hc=>?_) fun hc=>?_|refine wC (fun hc=>?_) fun hc=>?_) <;> try simp only [bq1,bq2] at hc)|with_reducible refine wX fun _=>?_|((with_reducible refine wY ?_ ?_); rfl)|fail)
  all_goals (refine hk _ _ _ (.inl ?_); simp only [go_sem])
 ·refine ⟨?_,rfl⟩
  simp only [go_sem]
 ·intro x e h hx
  rw [foldC_all] at hx
  rcases hx with ⟨hb,rfl⟩|⟨hb,rfl,e2⟩
  ·(have hc:=hc0; repeat' first|simp only [hc,il108c,go_sem,hb]|((with_reducible first|refine wG (fun hc=>?_) fun hc=>?_|refine wC (fun hc=>?_) fun hc=>?_) <;> try simp only [bq1,bq2] at hc)|with_reducible refine wX fun _=>?_|((with_reducible refine wY ?_ ?_); rfl)|fail)
  ·(have hc:=hc0; repeat' first|simp only [hc,il108c,go_sem,e2,hb]|((with_reducible first|refine wG (fun hc=>?_) fun hc=>?_|refine wC (fun hc=>?_) fun hc=>?_) <;> try simp only [bq1,bq2] at hc)|with_reducible refine wX fun _=>?_|((with_reducible refine wY ?_ ?_); rfl)|fail)
end Go.Proofs.YtbibdnlbpjnieaaGreat
namespace Go.Proofs.YtbibdnlbpjnieaaGreat
open Go Go.Abs
structure Hd where
 is:Bool
 a:Int
 b:Int
 c:Int
 d:Int
 e:Int
 f:Int
 g:Int
 deriving DecidableEq
abbrev hdT (h:Hd):T:=.agg [B h.is,I h.a,I h.b,I h.c,I h.d,I h.e,I h.f,I h.g]
def encH (h:Hd):T:=hdT h
theorem q05 (h:Hd):(encH h).cells=[B h.is,I h.a,I h.b,I h.c,I h.d,I h.e,I h.f,I h.g]:=rfl
def zH:Hd:=⟨false,0,0,0,0,0,0,0⟩
structure Br where
 p:Int
 n:Int
 ports:List Int
 costs:List Int
 heard:List Hd
abbrev brT (c1 c2 c3:Bool) (b:Br):T:=.agg [I b.p,I b.n,.sl c1 1 (b.ports.map I),.sl c2 1 (b.costs.map I),.sl c3 8 (b.heard.map encH)]
abbrev brC (c1 c2 c3:Bool) (b:Br):List T:=[I b.p,I b.n,.sl c1 1 (b.ports.map I),.sl c2 1 (b.costs.map I),.sl c3 8 (b.heard.map encH)]
def helloP (h:Hd):Prop:=rankP h.a h.b h.c h.d h.e h.f∧0≤h.g∧h.g≤20
instance (h:Hd):Decidable (helloP h):=inferInstanceAs (Decidable (_∧_))
def okH (h:Hd):Prop:=(h.is=true→helloP h)∧(h.is=false→h=zH)
instance (h:Hd):Decidable (okH h):=inferInstanceAs (Decidable (_∧_))
def prt (b:Br) (i:Nat):Int:=b.ports[i]?.getD 0
def cst (b:Br) (i:Nat):Int:=b.costs[i]?.getD 0
def hrd (b:Br) (i:Nat):Hd:=b.heard[i]?.getD zH
def okAt (b:Br) (i:Nat):Bool:=decide ((0≤prt b i∧prt b i < 48)∧(0 < i→prt b (i - 1) < prt b i)∧(1≤cst b i∧cst b i≤1000)∧okH (hrd b i))
def okL (b:Br):Prop:=b.ports.length≤24∧b.costs.length=b.ports.length∧b.heard.length=b.ports.length
instance (b:Br):Decidable (okL b):=inferInstanceAs (Decidable (_∧_))
def okB (b:Br):Bool:=decide (okL b) && decide (bidP b.p b.n) && (List.range b.ports.length).all (okAt b)
theorem q1a {α:Type} {p:Nat→Bool}:∀ (l:List α) (k:Nat),foldC (fun i _ (_:Unit)=>if p i then Ctl.go () else Ctl.out false) (fun _=>true) k l ()=(List.range' k l.length).all p:=by
 intro l
 induction l with
 | nil=>intro k; rfl
 | cons x l ih =>
  intro k
  rw [List.length_cons,List.range'_succ,List.all_cons]
  cases h:p k with
  | true=>rw [q07 (s':=()) (by simp [h]),ih,Bool.true_and]
  | false=>rw [q0N (r:=false) (by simp [h]),Bool.false_and]
theorem q6f (h:Hd):ans Tryz.prog pol 114 [.agg [I h.a,I h.b,I h.c,I h.d,I h.e,I h.f,I h.g]]=some (I (if helloP h then 0 else 280)):=qet h.a h.b h.c h.d h.e h.f h.g
theorem qeE (h:Hd):ans Tryz.prog pol 94 [.agg [I h.a,I h.b,I h.c,I h.d,I h.e,I h.f,I h.g]]=some (B (decide (helloP h))):=qev h.a h.b h.c h.d h.e h.f h.g
theorem q1y (h:Hd):h=zH↔(h.is=false∧h.a=0∧h.b=0∧h.c=0∧h.d=0∧h.e=0∧h.f=0∧h.g=0):=by
 obtain ⟨x,a,b,c,d,e,f,g⟩:=h
 simp [zH]
theorem q3q (c1 c2 c3:Bool) (b:Br):ans Tryz.prog pol 77 [brT c1 c2 c3 b]=some (I (if okB b=true then 0 else 290)):=by
 refine q00 100 1 il77_eq (Nat.le_of_ble_eq_true rfl) ?_
 by_cases q:okL b
 rotate_left
 ·have hno:okB b=false:=by rw [okB,decide_eq_false q,Bool.false_and,Bool.false_and]
  rw [hno]
  simp only [okL] at q
  (have hc:=hc0; repeat' first|simp only [hc,il77c,go_sem]|((with_reducible first|refine wG (fun hc=>?_) fun hc=>?_|refine wC (fun hc=>?_) fun hc=>?_) <;> try simp only [bq1,bq2] at hc)|with_reducible refine wX fun _=>?_|((with_reducible refine wY ?_ ?_); rfl)|fail)
  all_goals (exfalso; simp only [decide_eq_true_eq,decide_eq_false_iff_not] at *; omega)
 have hq:=q
 obtain ⟨q1,q2,q3⟩:=q
 have d1:decide ((24:Int) < (b.ports.length:Nat))=false:=decide_eq_false (by omega)
 have d2:decide (((b.costs.length:Nat):Int)=(b.ports.length:Nat))=true:=decide_eq_true (by omega)
 have d3:decide (((b.heard.length:Nat):Int)=(b.ports.length:Nat))=true:=decide_eq_true (by omega)
 have k0:=q6b b.p b.n 0 b.p b.n 0
 by_cases qo:bidP b.p b.n
 rotate_left
 ·have hno:okB b=false:=by rw [okB,decide_eq_false qo,Bool.and_false,Bool.false_and]
  rw [hno]
  rw [if_neg (fun h=>qo h.1)] at k0
  (have hc:=hc0; repeat' first|simp only [hc,il77c,go_sem,d1,d2,d3,k0]|((with_reducible first|refine wG (fun hc=>?_) fun hc=>?_|refine wC (fun hc=>?_) fun hc=>?_) <;> try simp only [bq1,bq2] at hc)|with_reducible refine wX fun _=>?_|((with_reducible refine wY ?_ ?_); rfl)|fail)
 rw [if_pos ⟨qo,qo,by omega,by omega⟩] at k0
 have hob:okB b=(List.range b.ports.length).all (okAt b):=by rw [okB,decide_eq_true hq,decide_eq_true qo,Bool.true_and,Bool.true_and]
 rw [hob]
 (have hc:=hc0; repeat' first|simp only [hc,il77c,go_sem,d1,d2,d3,k0]|((with_reducible first|refine wG (fun hc=>?_) fun hc=>?_|refine wC (fun hc=>?_) fun hc=>?_) <;> try simp only [bq1,bq2] at hc)|with_reducible refine wX fun _=>?_|((with_reducible refine wY ?_ ?_); rfl)|fail)
 refine q06 b.ports I (step:=fun i _ (_:Unit)=>if okAt b i then Ctl.go () else Ctl.out false) (fin:=fun _=>true)
  (St:=fun i _ e h=>(e 1=.t (.ip (brC c1 c2 c3 b))∧e 34=.t (.sl c1 1 (b.ports.map I))∧e 35=.t (I (b.ports.length:Nat))∧e 36=.t (I (i:Nat)))∧h=[])
  (Ex:=fun r x e h=>r=true∧x=.exit 0∨r=false∧x=.ret∧e 2=.t (I 290)) (s:=()) (by omega) ?_ ?_ (by omega) ?_ ?_
 ·intro i p _ e h Y R hm hi hx hget hlt hw ⟨hs,hh⟩ hk
  subst hh
  have hp:prt b i=p:=by simp [prt,hx]
  have hcs:(b.costs.map I)[i]? = some (I (cst b i)):=by simp [cst,show i < b.costs.length by omega]
  have hH:(b.heard.map encH)[i]? = some (encH (hrd b i)):=by simp [hrd,show i < b.heard.length by omega]
  have k1:=q6f (hrd b i)
  have hz:=q1y (hrd b i)
  have hpr:(b.ports.map I)[i - 1]? = some (I (prt b (i - 1))):=by simp [prt,show i - 1 < b.ports.length by omega]
  have v1:0 < i→IntKind.i64.wrap ((i:Int) - 1)=((i - 1:Nat):Int):=fun h0=>by rw [q09 (by omega) (by omega)]; omega
  have hok:okAt b i=decide ((0≤p∧p < 48)∧(0 < i→prt b (i - 1) < p)∧(1≤cst b i∧cst b i≤1000)∧okH (hrd b i)):=by simp only [okAt,hp]
  rw [hok] at hk
  clear hok
  generalize hrd b i=H at *
  generalize cst b i=C at *
  generalize prt b (i - 1)=P0 at *
  by_cases g1:0≤p∧p < 48
  rotate_left
  ·rw [if_neg (by rw [decide_eq_true_eq]; exact fun h=>g1 h.1),q04] at hk
   (have hc:=hc0; repeat' first|simp only [hc,il77l0_go,il77l0b,go_sem,hs,hget,hlt,hw]|((with_reducible first|refine wG (fun hc=>?_) fun hc=>?_|refine wC (fun hc=>?_) fun hc=>?_) <;> try simp only [bq1,bq2] at hc)|with_reducible refine wX fun _=>?_|((with_reducible refine wY ?_ ?_); rfl)|fail)
   all_goals first
    | (refine hk _ _ _ (.inr ?_); simp only [go_sem]; done)
    | (exfalso; simp only [decide_eq_true_eq,decide_eq_false_iff_not] at *; omega)
  have e1:decide (p < 0)=false:=decide_eq_false (by omega)
  have e2:decide ((48:Int)≤p)=false:=decide_eq_false (by omega)
  -- the rest,once the order of ports is known
  have rest:∀ (b0 b1:Bool) (hb0:decide ((0:Int) < (i:Int))=b0) (v1:b0=true→IntKind.i64.wrap ((i:Int) - 1)=((i - 1:Nat):Int)) (hb1:b0=true→decide (p≤P0)=b1),(b0 && b1)=false→((0 < i→P0 < p)) →
    wc Tryz.prog pol (ans Tryz.prog pol) (inl Tryz.prog pol (ans Tryz.prog pol) 100 1) 100 77 il77l0 (itK 0 Y R) (tidyF (some [1,34,35,36]) e) []:=by
   intro b0 b1 hb0 v1 hb1 hbb g2
   by_cases g3:1≤C∧C≤1000
   rotate_left
   ·rw [if_neg (by rw [decide_eq_true_eq]; exact fun h=>g3 h.2.2.1),q04] at hk
    cases b0 with
    | false =>
     (have hc:=hc0; repeat' first|simp only [hc,il77l0_go,il77l0b,go_sem,hs,hget,hlt,hw,e1,e2,hb0,hcs]|((with_reducible first|refine wG (fun hc=>?_) fun hc=>?_|refine wC (fun hc=>?_) fun hc=>?_) <;> try simp only [bq1,bq2] at hc)|with_reducible refine wX fun _=>?_|((with_reducible refine wY ?_ ?_); rfl)|fail)
     all_goals first
      | (refine hk _ _ _ (.inr ?_); simp only [go_sem]; done)
      | (exfalso; simp only [decide_eq_true_eq,decide_eq_false_iff_not] at *; omega)
    | true =>
     have v1':=v1 rfl
     have hb1':=hb1 rfl
     simp only [Bool.true_and] at hbb
     subst hbb
     (have hc:=hc0; repeat' first|simp only [hc,il77l0_go,il77l0b,go_sem,hs,hget,hlt,hw,e1,e2,hb0,v1',hb1',hpr,hcs]|((with_reducible first|refine wG (fun hc=>?_) fun hc=>?_|refine wC (fun hc=>?_) fun hc=>?_) <;> try simp only [bq1,bq2] at hc)|with_reducible refine wX fun _=>?_|((with_reducible refine wY ?_ ?_); rfl)|fail)
     all_goals first
      | (refine hk _ _ _ (.inr ?_); simp only [go_sem]; done)
      | (exfalso; simp only [decide_eq_true_eq,decide_eq_false_iff_not] at *; omega)
   have e3:decide (C < 1)=false:=decide_eq_false (by omega)
   have e4:decide ((1000:Int) < C)=false:=decide_eq_false (by omega)
   obtain ⟨hi0,h1,h2,h3,h4,h5,h6,h7⟩:=H
   -- the last check
   have last:∀ (K:Prop),(∀ (r:Bool),(r=true↔okH ⟨hi0,h1,h2,h3,h4,h5,h6,h7⟩)→ctlK (fun _ e h=>(e 1=.t (.ip (brC c1 c2 c3 b))∧e 34=.t (.sl c1 1 (b.ports.map I))∧e 35=.t (I (b.ports.length:Nat))∧e 36=.t (I ((i+1:Nat):Int)))∧h=[]) (fun r x e h=>r=true∧x=.exit 0∨r=false∧x=.ret∧e 2=.t (I 290)) Y R (if r=true then Ctl.go () else Ctl.out false)→K)→K:=by
    intro K hK
    refine hK (decide (okH ⟨hi0,h1,h2,h3,h4,h5,h6,h7⟩)) (by rw [decide_eq_true_eq]) ?_
    by_cases g4:okH ⟨hi0,h1,h2,h3,h4,h5,h6,h7⟩
    ·rw [if_pos (decide_eq_true g4)]
     rw [if_pos (by rw [decide_eq_true_eq]; exact ⟨g1,g2,g3,g4⟩)] at hk
     exact hk
    ·rw [if_neg (by simp [g4])]
     rw [if_neg (by rw [decide_eq_true_eq]; exact fun h=>g4 h.2.2.2)] at hk
     exact hk
   clear hk
   refine last _ ?_
   intro r hr hk
   have fin:∀ (x:Bool),(x=true↔okH ⟨hi0,h1,h2,h3,h4,h5,h6,h7⟩)→r=x:=by
    intro x hx
    exact Bool.eq_iff_iff.2 (hr.trans hx.symm)
   have kz:(h1=0∧h2=0∧h3=0∧h4=0∧h5=0∧h6=0∧h7=0)∨¬ (h1=0∧h2=0∧h3=0∧h4=0∧h5=0∧h6=0∧h7=0):=Decidable.em _
   -- with the result known
   cases hi0 with
   | true =>
    by_cases g5:helloP ⟨true,h1,h2,h3,h4,h5,h6,h7⟩
    ·rw [if_pos g5] at k1
     obtain rfl:=fin true ⟨fun _=>⟨fun _=>g5,fun h=>absurd h (by simp)⟩,fun _=>rfl⟩
     rw [if_pos rfl,q01] at hk
     cases b0 with
     | false =>
      (have hc:=hc0; repeat' first|simp only [hc,il77l0_go,il77l0b,go_sem,hs,hget,hlt,hw,e1,e2,hb0,hcs,e3,e4,hH,q05,k1]|((with_reducible first|refine wG (fun hc=>?_) fun hc=>?_|refine wC (fun hc=>?_) fun hc=>?_) <;> try simp only [bq1,bq2] at hc)|with_reducible refine wX fun _=>?_|((with_reducible refine wY ?_ ?_); rfl)|fail)
      all_goals (refine hk _ _ ?_; simp only [go_sem,hs,hw])
     | true =>
      have v1':=v1 rfl
      have hb1':=hb1 rfl
      simp only [Bool.true_and] at hbb
      subst hbb
      (have hc:=hc0; repeat' first|simp only [hc,il77l0_go,il77l0b,go_sem,hs,hget,hlt,hw,e1,e2,hb0,v1',hb1',hpr,hcs,e3,e4,hH,q05,k1]|((with_reducible first|refine wG (fun hc=>?_) fun hc=>?_|refine wC (fun hc=>?_) fun hc=>?_) <;> try simp only [bq1,bq2] at hc)|with_reducible refine wX fun _=>?_|((with_reducible refine wY ?_ ?_); rfl)|fail)
      all_goals (refine hk _ _ ?_; simp only [go_sem,hs,hw])
    ·rw [if_neg g5] at k1
     obtain rfl:=fin false ⟨fun h=>absurd h (by simp),fun h=>absurd (h.1 rfl) g5⟩
     rw [if_neg (by simp),q04] at hk
     cases b0 with
     | false =>
      (have hc:=hc0; repeat' first|simp only [hc,il77l0_go,il77l0b,go_sem,hs,hget,hlt,hw,e1,e2,hb0,hcs,e3,e4,hH,q05,k1]|((with_reducible first|refine wG (fun hc=>?_) fun hc=>?_|refine wC (fun hc=>?_) fun hc=>?_) <;> try simp only [bq1,bq2] at hc)|with_reducible refine wX fun _=>?_|((with_reducible refine wY ?_ ?_); rfl)|fail)
      all_goals (refine hk _ _ _ (.inr ?_); simp only [go_sem])
     | true =>
      have v1':=v1 rfl
      have hb1':=hb1 rfl
      simp only [Bool.true_and] at hbb
      subst hbb
      (have hc:=hc0; repeat' first|simp only [hc,il77l0_go,il77l0b,go_sem,hs,hget,hlt,hw,e1,e2,hb0,v1',hb1',hpr,hcs,e3,e4,hH,q05,k1]|((with_reducible first|refine wG (fun hc=>?_) fun hc=>?_|refine wC (fun hc=>?_) fun hc=>?_) <;> try simp only [bq1,bq2] at hc)|with_reducible refine wX fun _=>?_|((with_reducible refine wY ?_ ?_); rfl)|fail)
      all_goals (refine hk _ _ _ (.inr ?_); simp only [go_sem])
   | false =>
    have hz':okH ⟨false,h1,h2,h3,h4,h5,h6,h7⟩↔(h1=0∧h2=0∧h3=0∧h4=0∧h5=0∧h6=0∧h7=0):=by
     constructor
     ·intro h
      have:=(q1y _).1 (h.2 rfl)
      exact this.2
     ·intro h
      exact ⟨fun h=>absurd h (by simp),fun _=>(q1y _).2 ⟨rfl,h⟩⟩
    rcases kz with kz|kz
    ·obtain rfl:=fin true ⟨fun _=>hz'.2 kz,fun _=>rfl⟩
     rw [if_pos rfl,q01] at hk
     obtain ⟨rfl,rfl,rfl,rfl,rfl,rfl,rfl⟩:=kz
     cases b0 with
     | false =>
      (have hc:=hc0; repeat' first|simp only [hc,il77l0_go,il77l0b,go_sem,hs,hget,hlt,hw,e1,e2,hb0,hcs,e3,e4,hH,q05]|((with_reducible first|refine wG (fun hc=>?_) fun hc=>?_|refine wC (fun hc=>?_) fun hc=>?_) <;> try simp only [bq1,bq2] at hc)|with_reducible refine wX fun _=>?_|((with_reducible refine wY ?_ ?_); rfl)|fail)
      all_goals (refine hk _ _ ?_; simp only [go_sem,hs,hw])
     | true =>
      have v1':=v1 rfl
      have hb1':=hb1 rfl
      simp only [Bool.true_and] at hbb
      subst hbb
      (have hc:=hc0; repeat' first|simp only [hc,il77l0_go,il77l0b,go_sem,hs,hget,hlt,hw,e1,e2,hb0,v1',hb1',hpr,hcs,e3,e4,hH,q05]|((with_reducible first|refine wG (fun hc=>?_) fun hc=>?_|refine wC (fun hc=>?_) fun hc=>?_) <;> try simp only [bq1,bq2] at hc)|with_reducible refine wX fun _=>?_|((with_reducible refine wY ?_ ?_); rfl)|fail)
      all_goals (refine hk _ _ ?_; simp only [go_sem,hs,hw])
    ·obtain rfl:=fin false ⟨fun h=>absurd h (by simp),fun h=>absurd (hz'.1 h) kz⟩
     rw [if_neg (by simp),q04] at hk
     have kd:decide (h1=0∧h2=0∧h3=0∧h4=0∧h5=0∧h6=0∧h7=0)=false:=decide_eq_false kz
     cases b0 with
     | false =>
      (have hc:=hc0; repeat' first|simp only [hc,il77l0_go,il77l0b,go_sem,hs,hget,hlt,hw,e1,e2,hb0,hcs,e3,e4,hH,q05,kd]|((with_reducible first|refine wG (fun hc=>?_) fun hc=>?_|refine wC (fun hc=>?_) fun hc=>?_) <;> try simp only [bq1,bq2] at hc)|with_reducible refine wX fun _=>?_|((with_reducible refine wY ?_ ?_); rfl)|fail)
      all_goals (refine hk _ _ _ (.inr ?_); simp only [go_sem])
     | true =>
      have v1':=v1 rfl
      have hb1':=hb1 rfl
      simp only [Bool.true_and] at hbb
      subst hbb
      (have hc:=hc0; repeat' first|simp only [hc,il77l0_go,il77l0b,go_sem,hs,hget,hlt,hw,e1,e2,hb0,v1',hb1',hpr,hcs,e3,e4,hH,q05,kd]|((with_reducible first|refine wG (fun hc=>?_) fun hc=>?_|refine wC (fun hc=>?_) fun hc=>?_) <;> try simp only [bq1,bq2] at hc)|with_reducible refine wX fun _=>?_|((with_reducible refine wY ?_ ?_); rfl)|fail)
      all_goals (refine hk _ _ _ (.inr ?_); simp only [go_sem])
  by_cases i0:0 < i
  ·by_cases g2:P0 < p
   ·exact rest true false (decide_eq_true (by omega)) (fun _=>v1 i0) (fun _=>decide_eq_false (by omega)) rfl (fun _=>g2)
   ·rw [if_neg (by rw [decide_eq_true_eq]; exact fun h=>g2 (h.2.1 i0)),q04] at hk
    have f1:decide ((0:Int) < (i:Int))=true:=decide_eq_true (by omega)
    have f2:decide (p≤P0)=true:=decide_eq_true (by omega)
    have v1':=v1 i0
    (have hc:=hc0; repeat' first|simp only [hc,il77l0_go,il77l0b,go_sem,hs,hget,hlt,hw,e1,e2,f1,f2,v1',hpr]|((with_reducible first|refine wG (fun hc=>?_) fun hc=>?_|refine wC (fun hc=>?_) fun hc=>?_) <;> try simp only [bq1,bq2] at hc)|with_reducible refine wX fun _=>?_|((with_reducible refine wY ?_ ?_); rfl)|fail)
    all_goals (refine hk _ _ _ (.inr ?_); simp only [go_sem])
  ·exact rest false false (decide_eq_false (by omega)) (fun h=>absurd h (by simp)) (fun h=>absurd h (by simp)) rfl (fun h=>absurd h i0)
 ·intro _ e h Y R hlt ⟨hs,hh⟩ hk
  subst hh
  (have hc:=hc0; repeat' first|simp only [hc,il77l0_go,il77l0b,go_sem,hs,hlt]|((with_reducible first|refine wG (fun hc=>?_) fun hc=>?_|refine wC (fun hc=>?_) fun hc=>?_) <;> try simp only [bq1,bq2] at hc)|with_reducible refine wX fun _=>?_|((with_reducible refine wY ?_ ?_); rfl)|fail)
  all_goals (refine hk _ _ _ (.inl ?_); simp only [go_sem])
 ·simp only [go_sem]
 ·intro x e h hx
  rw [q1a] at hx
  rw [List.range_eq_range']
  rcases hx with ⟨hb,rfl⟩|⟨hb,rfl,e2⟩
  ·(have hc:=hc0; repeat' first|simp only [hc,il77c,go_sem,hb]|((with_reducible first|refine wG (fun hc=>?_) fun hc=>?_|refine wC (fun hc=>?_) fun hc=>?_) <;> try simp only [bq1,bq2] at hc)|with_reducible refine wX fun _=>?_|((with_reducible refine wY ?_ ?_); rfl)|fail)
  ·(have hc:=hc0; repeat' first|simp only [hc,il77c,go_sem,e2,hb]|((with_reducible first|refine wG (fun hc=>?_) fun hc=>?_|refine wC (fun hc=>?_) fun hc=>?_) <;> try simp only [bq1,bq2] at hc)|with_reducible refine wX fun _=>?_|((with_reducible refine wY ?_ ?_); rfl)|fail)
end Go.Proofs.YtbibdnlbpjnieaaGreat
namespace Go.Proofs.YtbibdnlbpjnieaaGreat
open Go Go.Abs
theorem qeF (c1 c2:Bool) (t:Tpo) (hs:(t.station.length:Int)=t.nodes) (hb:t.links.length≤100):ans Tryz.prog pol 67 [tpT c1 c2 t]=some (B (soundL t)):=by
 refine q00 1000 1 il67_eq (Nat.le_of_ble_eq_true rfl) ?_
 (repeat' first|simp only [il67c,go_sem]|with_reducible refine wX fun _=>?_|((with_reducible refine wY ?_ ?_); rfl)|fail)
 refine q06 t.links encK (step:=fun i _ (_:Unit)=>if lkOk t i (lnk t i)=true then Ctl.go () else Ctl.out false) (fin:=fun _=>true)
  (St:=fun i _ e h=>(e 3=.ref 0 1 0 0∧e 14=.t (I (t.links.length:Nat))∧e 15=.t (I (i:Nat))) ∧
   h=[.row 4 [.t (.agg [.fn (.func 105) [] [.ip (tpC c1 c2 t)],.fn (.func 107) [] [.ip (tpC c1 c2 t)],.fn (.func 108) [] [.ip (tpC c1 c2 t)],.fn (.func 109) [] [.ip (tpC c1 c2 t)]])] 1])
  (Ex:=fun r x e h=>r=true∧x=.exit 0∨r=false∧x=.ret∧e 2=.t (B false)) (s:=()) (by omega) ?_ ?_ (by omega) ?_ ?_
 ·intro i m _ e h Y R hm hi hx hget hlt hw ⟨hs',hh⟩ hk
  subst hh
  have k1:=qeA c1 c2 t i hi
  have k4:=qeC c1 c2 t i hi
  have k3:=qeD c1 c2 t i hi hb
  cases h1:lk1 t (lnk t i) with
  | false =>
   rw [h1] at k1
   rw [if_neg (by simp [lkOk,h1]),q04] at hk
   (repeat' first|simp only [il67l1_go,il67l1b,go_sem,hs',hlt,hw,k1]|with_reducible refine wX fun _=>?_|((with_reducible refine wY ?_ ?_); rfl)|((with_reducible refine q0C (body:=wc _ _ _ _ _ _ il67l0) ?_ ?_); exact Nat.le_of_ble_eq_true rfl; simp only [il67l0_go,il67l0b])|fail)
   all_goals (refine hk _ _ _ (.inr ?_); simp only [go_sem])
  | true =>
   have k2:=qeB c1 c2 t hs i hi h1
   rw [h1] at k1
   cases h2:lk2 t (lnk t i) with
   | false =>
    rw [h2] at k2
    rw [if_neg (by simp [lkOk,h2]),q04] at hk
    (repeat' first|simp only [il67l1_go,il67l1b,go_sem,hs',hlt,hw,k1,k2]|with_reducible refine wX fun _=>?_|((with_reducible refine wY ?_ ?_); rfl)|((with_reducible refine q0C (body:=wc _ _ _ _ _ _ il67l0) ?_ ?_); exact Nat.le_of_ble_eq_true rfl; simp only [il67l0_go,il67l0b])|fail)
    all_goals (refine hk _ _ _ (.inr ?_); simp only [go_sem])
   | true =>
    rw [h2] at k2
    cases h3:lk3 t i (lnk t i) with
    | false =>
     rw [h3] at k3
     rw [if_neg (by simp [lkOk,h3]),q04] at hk
     (repeat' first|simp only [il67l1_go,il67l1b,go_sem,hs',hlt,hw,k1,k2,k3]|with_reducible refine wX fun _=>?_|((with_reducible refine wY ?_ ?_); rfl)|((with_reducible refine q0C (body:=wc _ _ _ _ _ _ il67l0) ?_ ?_); exact Nat.le_of_ble_eq_true rfl; simp only [il67l0_go,il67l0b])|fail)
     all_goals (refine hk _ _ _ (.inr ?_); simp only [go_sem])
    | true =>
     rw [h3] at k3
     cases h4:lk4 (lnk t i) with
     | false =>
      rw [h4] at k4
      rw [if_neg (by simp [lkOk,h4]),q04] at hk
      (repeat' first|simp only [il67l1_go,il67l1b,go_sem,hs',hlt,hw,k1,k2,k3,k4]|with_reducible refine wX fun _=>?_|((with_reducible refine wY ?_ ?_); rfl)|((with_reducible refine q0C (body:=wc _ _ _ _ _ _ il67l0) ?_ ?_); exact Nat.le_of_ble_eq_true rfl; simp only [il67l0_go,il67l0b])|fail)
      all_goals (refine hk _ _ _ (.inr ?_); simp only [go_sem])
     | true =>
      rw [h4] at k4
      rw [if_pos (by simp [lkOk,h1,h2,h3,h4]),q01] at hk
      (repeat' first|simp only [il67l1_go,il67l1b,go_sem,hs',hlt,hw,k1,k2,k3,k4]|with_reducible refine wX fun _=>?_|((with_reducible refine wY ?_ ?_); rfl)|((with_reducible refine q0C (body:=wc _ _ _ _ _ _ il67l0) ?_ ?_); exact Nat.le_of_ble_eq_true rfl; simp only [il67l0_go,il67l0b])|fail)
      all_goals (refine hk _ _ ⟨?_,rfl⟩; simp only [go_sem,hs',hw])
 ·intro _ e h Y R hlt ⟨hs',hh⟩ hk
  subst hh
  (repeat' first|simp only [il67l1_go,il67l1b,go_sem,hs',hlt]|with_reducible refine wX fun _=>?_|((with_reducible refine wY ?_ ?_); rfl)|fail)
  all_goals (refine hk _ _ _ (.inl ?_); simp only [go_sem])
 ·refine ⟨?_,rfl⟩
  simp only [go_sem]
 ·intro x e h hx
  rw [q1a,← List.range_eq_range'] at hx
  simp only [soundL]
  rcases hx with ⟨hb,rfl⟩|⟨hb,rfl,e2⟩
  ·(repeat' first|simp only [il67c,go_sem,hb]|with_reducible refine wX fun _=>?_|((with_reducible refine wY ?_ ?_); rfl)|fail)
  ·(repeat' first|simp only [il67c,go_sem,e2,hb]|with_reducible refine wX fun _=>?_|((with_reducible refine wY ?_ ?_); rfl)|fail)
def rB (r:List Bool) (n:Int):Bool:=r[n.toNat]?.getD false
def rStep (cut:Nat→Bool) (i:Nat) (r:List Bool) (l:Lk):List Bool:=if (!cut i && (rB r l.a != rB r l.b))=true then (r.set l.a.toNat true).set l.b.toNat true else r
def rRound (cut:Nat→Bool):Nat→List Lk→List Bool→List Bool
 | _,[],r=>r
 | i,l::ls,r=>rRound cut (i+1) ls (rStep cut i r l)
def rIter (cut:Nat→Bool) (ls:List Lk):Nat→List Bool→List Bool
 | 0,r=>r
 | n+1,r=>rIter cut ls n (rRound cut 0 ls r)
def reachL (t:Tpo) (s:Nat) (cut:Nat→Bool):List Bool:=rIter cut t.links t.nodes.toNat ((List.replicate t.nodes.toNat false).set s true)
theorem q1z {r:List Bool} {n:Int} (h:n.toNat < r.length):((r.map B).map AV.t)[n.toNat]? = some (.t (B (rB r n))):=q0c (enc:=B) (by simp only [rB]; rw [List.getElem?_eq_getElem h]; rfl)
theorem qeG (cut:Nat→Bool) (i:Nat) (r:List Bool) (l:Lk):(rStep cut i r l).length=r.length:=by
 unfold rStep
 split <;> simp
theorem q3r (cut:Nat→Bool):∀ (ls:List Lk) (i:Nat) (r:List Bool),(rRound cut i ls r).length=r.length:=by
 intro ls
 induction ls with
 | nil=>intro i r; rfl
 | cons l ls ih=>intro i r; rw [rRound,ih,qeG]
theorem qeH (cut:Nat→Bool) (ls:List Lk):∀ (n:Nat) (r:List Bool),(rIter cut ls n r).length=r.length:=by
 intro n
 induction n with
 | zero=>intro r; rfl
 | succ n ih=>intro r; rw [rIter,ih,q3r]
theorem q2r (t:Tpo) (s:Nat) (cut:Nat→Bool):(reachL t s cut).length=t.nodes.toNat:=by rw [reachL,qeH]; simp
def endsP (t:Tpo) (l:Lk):Prop:=nodeP t l.a∧nodeP t l.b∧l.a≠l.b
theorem qeI (t:Tpo) (hv:∀ l∈t.links,endsP t l) (hb:t.links.length≤24) (cs:List Bool) (hcs:cs.length=24) (c1 c2:Bool) (N:Nat) (hN:(N:Int)=t.nodes) (x17 x18:T) (r:List Bool) (hr:r.length=N) (mr:Nat) (hmr:mr≤N)
  (J:Inl) (nn:Nat) (hn:100 < nn) (R:Xit→FEnv→Heap→Prop) (e:FEnv)
  (he:e 3=.t (.ip (tpC c1 c2 t))∧e 5=.t (.ip (cs.map B))∧e 7=.ms 0 N 0 N 1 true∧e 17=.t x17∧e 18=.t x18∧e 21=.t (.sl c2 4 (t.links.map encK))∧e 22=.t (I (t.links.length:Nat))∧e 23=.t (I 0))
  (hR:∀ e mr,mr≤N→(e 3=.t (.ip (tpC c1 c2 t))∧e 5=.t (.ip (cs.map B))∧e 7=.ms 0 N 0 N 1 true∧e 17=.t x17∧e 18=.t x18)→R (.exit 2) e [.row 1 (((rRound (fun i=>cs[i]?.getD false) 0 t.links r).map B).map .t) mr]) :
  wpIter 1 (some [3,5,7,17,18,21,22,23]) (wc Tryz.prog pol (ans Tryz.prog pol) J nn 69 il69l0) R nn e [.row 1 ((r.map B).map .t) mr]:=by
 have hst:∀ (r:List Bool) (n:Nat),(((r.map B).map AV.t).set n (.t (B true)))=((r.set n true).map B).map .t:=fun r n=>map_set (enc:=B)
 refine q06 t.links encK (step:=fun i l r=>.go (rStep (fun i=>cs[i]?.getD false) i r l)) (fin:=id)
  (St:=fun i r e h=>(e 3=.t (.ip (tpC c1 c2 t))∧e 5=.t (.ip (cs.map B))∧e 7=.ms 0 N 0 N 1 true∧e 17=.t x17∧e 18=.t x18∧e 21=.t (.sl c2 4 (t.links.map encK))∧e 22=.t (I (t.links.length:Nat))∧e 23=.t (I (i:Nat)))∧r.length=N∧∃ mr,mr≤N∧h=[.row 1 ((r.map B).map .t) mr])
  (Ex:=fun r x e h=>(e 3=.t (.ip (tpC c1 c2 t))∧e 5=.t (.ip (cs.map B))∧e 7=.ms 0 N 0 N 1 true∧e 17=.t x17∧e 18=.t x18)∧x=.exit 2∧∃ mr,mr≤N∧h=[.row 1 ((r.map B).map .t) mr]) (s:=r) (by omega) ?_ ?_ (by omega) ⟨he,hr,mr,hmr,rfl⟩ ?_
 ·intro i l r e h Y R hm hi hx hget hlt hw ⟨hs,hr,mr,hmr,hh⟩ hk
  subst hh
  simp only [q01] at hk
  obtain ⟨p1,p2,p3⟩:=hv l hm
  have q1:0≤l.a:=p1.1
  have q2:0≤l.b:=p2.1
  have q3:l.a.toNat < N:=by omega
  have q4:l.b.toNat < N:=by omega
  have hi24:i < 24:=by omega
  obtain ⟨cb,hcb⟩:∃ cb,cs[i]? = some cb:=⟨cs[i]'(by omega),by simp⟩
  have hcut:(fun i=>cs[i]?.getD false) i=cb:=by simp [hcb]
  have g0:(cs.map B).drop (i*1)=B cb::(cs.map B).drop (i+1):=by
   rw [Nat.mul_one,List.drop_eq_getElem_cons (by simp; omega)]
   congr 1
   have:=List.getElem?_eq_some_iff.1 hcb
   obtain ⟨h1,h2⟩:=this
   simp [h2]
  have g1:=q1z (r:=r) (n:=l.a) (by omega)
  have g2:=q1z (r:=r) (n:=l.b) (by omega)
  simp only [rStep,hcut] at hk
  cases cb with
  | true =>
   simp only [Bool.not_true,Bool.false_and,Bool.false_eq_true,if_false] at hk
   (repeat' first|simp only [il69l0_go,il69l0b,go_sem,hs,hget,q0k,hlt,hw,hi24,g0]|with_reducible refine wX fun _=>?_|((with_reducible refine wY ?_ ?_); rfl)|fail)
   all_goals (refine hk _ _ ⟨?_,hr,mr,hmr,?_⟩ <;> simp only [go_sem,hs,hw])
  | false =>
   by_cases hx2:(rB r l.a != rB r l.b)=true
   ·rw [if_pos (by rw [Bool.not_false,Bool.true_and]; exact hx2)] at hk
    have hl1:(r.set l.a.toNat true).length=N:=by simpa using hr
    have hl2:((r.set l.a.toNat true).set l.b.toNat true).length=N:=by simpa using hr
    have s1:=hst r l.a.toNat
    have s2:=hst (r.set l.a.toNat true) l.b.toNat
    have g3:=q1z (r:=r.set l.a.toNat true) (n:=l.b) (by rw [hl1]; exact q4)
    generalize rB (r.set l.a.toNat true) l.b=z at *
    generalize r.set l.a.toNat true=r1 at *
    generalize r1.set l.b.toNat true=r2 at *
    generalize rB r l.a=a at *
    generalize rB r l.b=b at *
    (repeat' first|simp only [il69l0_go,il69l0b,go_sem,hs,hget,q0k,hlt,hw,hi24,g0,q1,q2,q3,q4,g1,g2,g3,hx2,s1,s2,hr,hl1,hl2,hmr]|with_reducible refine wX fun _=>?_|((with_reducible refine wY ?_ ?_); rfl)|fail)
    all_goals (refine hk _ _ ⟨?_,hl2,N,Nat.le_refl _,?_⟩ <;> simp only [go_sem,hs,hw])
   ·have hx2':(rB r l.a != rB r l.b)=false:=by simpa using hx2
    rw [if_neg (by rw [Bool.not_false,Bool.true_and]; exact hx2)] at hk
    generalize rB r l.a=a at *
    generalize rB r l.b=b at *
    (repeat' first|simp only [il69l0_go,il69l0b,go_sem,hs,hget,q0k,hlt,hw,hi24,g0,q1,q2,q3,q4,g1,g2,hx2',hr,hmr]|with_reducible refine wX fun _=>?_|((with_reducible refine wY ?_ ?_); rfl)|fail)
    all_goals (refine hk _ _ ⟨?_,hr,mr,hmr,?_⟩ <;> simp only [go_sem,hs,hw])
 ·intro r e h Y R hlt ⟨hs,hr,mr,hmr,hh⟩ hk
  subst hh
  (repeat' first|simp only [il69l0_go,il69l0b,go_sem,hs,hlt]|with_reducible refine wX fun _=>?_|((with_reducible refine wY ?_ ?_); rfl)|fail)
  all_goals (refine hk _ _ _ ⟨?_,rfl,mr,hmr,rfl⟩; simp only [go_sem,hs,id])
 ·intro x e h ⟨h1,h2,mr,hmr,h3⟩
  subst h2 h3
  have hf:∀ (ls:List Lk) (i:Nat) (r:List Bool),foldC (ρ:=List Bool) (fun i l r=>Ctl.go (rStep (fun i=>cs[i]?.getD false) i r l)) id i ls r=rRound (fun i=>cs[i]?.getD false) i ls r:=by
   intro ls
   induction ls with
   | nil=>intro i r; rfl
   | cons l ls ih=>intro i r; rw [q07 (s':=rStep (fun i=>cs[i]?.getD false) i r l) rfl,ih]; rfl
  rw [hf] at *
  exact hR _ mr hmr h1
end Go.Proofs.YtbibdnlbpjnieaaGreat
