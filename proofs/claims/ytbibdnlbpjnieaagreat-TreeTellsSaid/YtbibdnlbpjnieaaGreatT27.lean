/- Part 27 of the proof of TreeTells. -/
import Derived.Test.YtbibdnlbpjnieaaGreatT26
set_option linter.all false
set_option maxRecDepth 100000
set_option maxHeartbeats 4000000
namespace Go.Proofs.YtbibdnlbpjnieaaGreat
open Go Go.Abs
theorem qhY (c1 c2 c3:Bool) (b:Br):ans Tryz.prog pol 46 [brT c1 c2 c3 b]=some (B (okB b)):=by
 refine q00 100 1 il46_eq (Nat.le_of_ble_eq_true rfl) ?_
 have k0:=q6c b.p b.n
 by_cases qo:bidP b.p b.n
 rotate_left
 ·have hno:okB b=false:=by rw [okB,decide_eq_false qo,Bool.and_false,Bool.false_and]
  rw [hno]
  rw [decide_eq_false qo] at k0
  (have hc:=hc0; repeat' first|simp only [hc,il46c,go_sem,k0]|((with_reducible first|refine wG (fun hc=>?_) fun hc=>?_|refine wC (fun hc=>?_) fun hc=>?_) <;> try simp only [bq1,bq2] at hc)|with_reducible refine wX fun _=>?_|((with_reducible refine wY ?_ ?_); rfl)|fail)
 rw [decide_eq_true qo] at k0
 by_cases q:okL b
 rotate_left
 ·have hno:okB b=false:=by rw [okB,decide_eq_false q,Bool.false_and,Bool.false_and]
  rw [hno]
  simp only [okL] at q
  (have hc:=hc0; repeat' first|simp only [hc,il46c,go_sem,k0]|((with_reducible first|refine wG (fun hc=>?_) fun hc=>?_|refine wC (fun hc=>?_) fun hc=>?_) <;> try simp only [bq1,bq2] at hc)|with_reducible refine wX fun _=>?_|((with_reducible refine wY ?_ ?_); rfl)|fail)
  all_goals (exfalso; simp only [decide_eq_true_eq,decide_eq_false_iff_not] at *; omega)
 have hq:=q
 obtain ⟨q1,q2,q3⟩:=q
 have d1:decide ((24:Int) < (b.ports.length:Nat))=false:=decide_eq_false (by omega)
 have d2:decide (((b.costs.length:Nat):Int)=(b.ports.length:Nat))=true:=decide_eq_true (by omega)
 have d3:decide (((b.heard.length:Nat):Int)=(b.ports.length:Nat))=true:=decide_eq_true (by omega)
 have hob:okB b=(List.range b.ports.length).all (okAt b):=by rw [okB,decide_eq_true hq,decide_eq_true qo,Bool.true_and,Bool.true_and]
 rw [hob]
 (have hc:=hc0; repeat' first|simp only [hc,il46c,go_sem,d1,d2,d3,k0]|((with_reducible first|refine wG (fun hc=>?_) fun hc=>?_|refine wC (fun hc=>?_) fun hc=>?_) <;> try simp only [bq1,bq2] at hc)|with_reducible refine wX fun _=>?_|((with_reducible refine wY ?_ ?_); rfl)|fail)
 refine q06 b.ports I (step:=fun i _ (_:Unit)=>if okAt b i then Ctl.go () else Ctl.out false) (fin:=fun _=>true)
  (St:=fun i _ e h=>(e 1=.t (.ip (brC c1 c2 c3 b))∧e 3=.t (I (b.ports.length:Nat))∧e 4=.t (I (i:Nat)))∧h=[])
  (Ex:=fun r x e h=>r=true∧x=.exit 0∨r=false∧x=.ret∧e 2=.t (B false)) (s:=()) (by omega) ?_ ?_ (by omega) ?_ ?_
 ·intro i p _ e h Y R hm hi hx hget hlt hw ⟨hs,hh⟩ hk
  subst hh
  have hp:prt b i=p:=by simp [prt,hx]
  have hcs:(b.costs.map I)[i]? = some (I (cst b i)):=by simp [cst,show i < b.costs.length by omega]
  have hH:(b.heard.map encH)[i]? = some (encH (hrd b i)):=by simp [hrd,show i < b.heard.length by omega]
  have k1:=qeE (hrd b i)
  have hz:=q1y (hrd b i)
  have hpr:(b.ports.map I)[i - 1]? = some (I (prt b (i - 1))):=by simp [prt,show i - 1 < b.ports.length by omega]
  have v1:0 < i→IntKind.i64.wrap ((i:Int) - 1)=((i - 1:Nat):Int):=fun h0=>by rw [q09 (by omega) (by omega)]; omega
  have hok:okAt b i=decide ((0≤p∧p < 48)∧(0 < i→prt b (i - 1) < p)∧(1≤cst b i∧cst b i≤1000)∧okH (hrd b i)):=by simp only [okAt,hp]
  rw [hok] at hk
  clear hok
  generalize hrd b i=H at *
  generalize cst b i=C at *
  generalize prt b (i - 1)=P0 at *
  by_cases g1:0≤p∧p < 48
  rotate_left
  ·rw [if_neg (by rw [decide_eq_true_eq]; exact fun h=>g1 h.1),q04] at hk
   (have hc:=hc0; repeat' first|simp only [hc,il46l0_go,il46l0b,go_sem,hs,hget,hlt,hw,hH,q05]|((with_reducible first|refine wG (fun hc=>?_) fun hc=>?_|refine wC (fun hc=>?_) fun hc=>?_) <;> try simp only [bq1,bq2] at hc)|with_reducible refine wX fun _=>?_|((with_reducible refine wY ?_ ?_); rfl)|fail)
   all_goals first
    | (refine hk _ _ _ (.inr ?_); simp only [go_sem]; done)
    | (exfalso; simp only [decide_eq_true_eq,decide_eq_false_iff_not] at *; omega)
  have e1:decide (p < 0)=false:=decide_eq_false (by omega)
  have e2:decide ((47:Int) < p)=false:=decide_eq_false (by omega)
  -- the rest,once the order of ports is known
  have rest:∀ (b0 b1:Bool) (hb0:decide ((0:Int) < (i:Int))=b0) (v1:b0=true→IntKind.i64.wrap ((i:Int) - 1)=((i - 1:Nat):Int)) (hb1:b0=true→decide (p≤P0)=b1),(b0 && b1)=false→((0 < i→P0 < p)) →
    wc Tryz.prog pol (ans Tryz.prog pol) (inl Tryz.prog pol (ans Tryz.prog pol) 100 1) 100 46 il46l0 (itK 0 Y R) (tidyF (some [1,3,4]) e) []:=by
   intro b0 b1 hb0 v1 hb1 hbb g2
   by_cases g3:1≤C∧C≤1000
   rotate_left
   ·rw [if_neg (by rw [decide_eq_true_eq]; exact fun h=>g3 h.2.2.1),q04] at hk
    cases b0 with
    | false =>
     (have hc:=hc0; repeat' first|simp only [hc,il46l0_go,il46l0b,go_sem,hs,hget,hlt,hw,hH,q05,e1,e2,hb0,hcs]|((with_reducible first|refine wG (fun hc=>?_) fun hc=>?_|refine wC (fun hc=>?_) fun hc=>?_) <;> try simp only [bq1,bq2] at hc)|with_reducible refine wX fun _=>?_|((with_reducible refine wY ?_ ?_); rfl)|fail)
     all_goals first
      | (refine hk _ _ _ (.inr ?_); simp only [go_sem]; done)
      | (exfalso; simp only [decide_eq_true_eq,decide_eq_false_iff_not] at *; omega)
    | true =>
     have v1':=v1 rfl
     have hb1':=hb1 rfl
     simp only [Bool.true_and] at hbb
     subst hbb
     (have hc:=hc0; repeat' first|simp only [hc,il46l0_go,il46l0b,go_sem,hs,hget,hlt,hw,hH,q05,e1,e2,hb0,v1',hb1',hpr,hcs]|((with_reducible first|refine wG (fun hc=>?_) fun hc=>?_|refine wC (fun hc=>?_) fun hc=>?_) <;> try simp only [bq1,bq2] at hc)|with_reducible refine wX fun _=>?_|((with_reducible refine wY ?_ ?_); rfl)|fail)
     all_goals first
      | (refine hk _ _ _ (.inr ?_); simp only [go_sem]; done)
      | (exfalso; simp only [decide_eq_true_eq,decide_eq_false_iff_not] at *; omega)
   have e3:decide (C < 1)=false:=decide_eq_false (by omega)
   have e4:decide ((1000:Int) < C)=false:=decide_eq_false (by omega)
   obtain ⟨hi0,h1,h2,h3,h4,h5,h6,h7⟩:=H
   -- the last check
   have last:∀ (K:Prop),(∀ (r:Bool),(r=true↔okH ⟨hi0,h1,h2,h3,h4,h5,h6,h7⟩)→ctlK (fun _ e h=>(e 1=.t (.ip (brC c1 c2 c3 b))∧e 3=.t (I (b.ports.length:Nat))∧e 4=.t (I ((i+1:Nat):Int)))∧h=[]) (fun r x e h=>r=true∧x=.exit 0∨r=false∧x=.ret∧e 2=.t (B false)) Y R (if r=true then Ctl.go () else Ctl.out false)→K)→K:=by
    intro K hK
    refine hK (decide (okH ⟨hi0,h1,h2,h3,h4,h5,h6,h7⟩)) (by rw [decide_eq_true_eq]) ?_
    by_cases g4:okH ⟨hi0,h1,h2,h3,h4,h5,h6,h7⟩
    ·rw [if_pos (decide_eq_true g4)]
     rw [if_pos (by rw [decide_eq_true_eq]; exact ⟨g1,g2,g3,g4⟩)] at hk
     exact hk
    ·rw [if_neg (by simp [g4])]
     rw [if_neg (by rw [decide_eq_true_eq]; exact fun h=>g4 h.2.2.2)] at hk
     exact hk
   clear hk
   refine last _ ?_
   intro r hr hk
   have fin:∀ (x:Bool),(x=true↔okH ⟨hi0,h1,h2,h3,h4,h5,h6,h7⟩)→r=x:=by
    intro x hx
    exact Bool.eq_iff_iff.2 (hr.trans hx.symm)
   have kz:(h1=0∧h2=0∧h3=0∧h4=0∧h5=0∧h6=0∧h7=0)∨¬ (h1=0∧h2=0∧h3=0∧h4=0∧h5=0∧h6=0∧h7=0):=Decidable.em _
   -- with the result known
   cases hi0 with
   | true =>
    by_cases g5:helloP ⟨true,h1,h2,h3,h4,h5,h6,h7⟩
    ·rw [decide_eq_true g5] at k1
     obtain rfl:=fin true ⟨fun _=>⟨fun _=>g5,fun h=>absurd h (by simp)⟩,fun _=>rfl⟩
     rw [if_pos rfl,q01] at hk
     cases b0 with
     | false =>
      (have hc:=hc0; repeat' first|simp only [hc,il46l0_go,il46l0b,go_sem,hs,hget,hlt,hw,e1,e2,hb0,hcs,e3,e4,hH,q05,k1]|((with_reducible first|refine wG (fun hc=>?_) fun hc=>?_|refine wC (fun hc=>?_) fun hc=>?_) <;> try simp only [bq1,bq2] at hc)|with_reducible refine wX fun _=>?_|((with_reducible refine wY ?_ ?_); rfl)|fail)
      all_goals (refine hk _ _ ?_; simp only [go_sem,hs,hw])
     | true =>
      have v1':=v1 rfl
      have hb1':=hb1 rfl
      simp only [Bool.true_and] at hbb
      subst hbb
      (have hc:=hc0; repeat' first|simp only [hc,il46l0_go,il46l0b,go_sem,hs,hget,hlt,hw,e1,e2,hb0,v1',hb1',hpr,hcs,e3,e4,hH,q05,k1]|((with_reducible first|refine wG (fun hc=>?_) fun hc=>?_|refine wC (fun hc=>?_) fun hc=>?_) <;> try simp only [bq1,bq2] at hc)|with_reducible refine wX fun _=>?_|((with_reducible refine wY ?_ ?_); rfl)|fail)
      all_goals (refine hk _ _ ?_; simp only [go_sem,hs,hw])
    ·rw [decide_eq_false g5] at k1
     obtain rfl:=fin false ⟨fun h=>absurd h (by simp),fun h=>absurd (h.1 rfl) g5⟩
     rw [if_neg (by simp),q04] at hk
     cases b0 with
     | false =>
      (have hc:=hc0; repeat' first|simp only [hc,il46l0_go,il46l0b,go_sem,hs,hget,hlt,hw,e1,e2,hb0,hcs,e3,e4,hH,q05,k1]|((with_reducible first|refine wG (fun hc=>?_) fun hc=>?_|refine wC (fun hc=>?_) fun hc=>?_) <;> try simp only [bq1,bq2] at hc)|with_reducible refine wX fun _=>?_|((with_reducible refine wY ?_ ?_); rfl)|fail)
      all_goals (refine hk _ _ _ (.inr ?_); simp only [go_sem])
     | true =>
      have v1':=v1 rfl
      have hb1':=hb1 rfl
      simp only [Bool.true_and] at hbb
      subst hbb
      (have hc:=hc0; repeat' first|simp only [hc,il46l0_go,il46l0b,go_sem,hs,hget,hlt,hw,e1,e2,hb0,v1',hb1',hpr,hcs,e3,e4,hH,q05,k1]|((with_reducible first|refine wG (fun hc=>?_) fun hc=>?_|refine wC (fun hc=>?_) fun hc=>?_) <;> try simp only [bq1,bq2] at hc)|with_reducible refine wX fun _=>?_|((with_reducible refine wY ?_ ?_); rfl)|fail)
      all_goals (refine hk _ _ _ (.inr ?_); simp only [go_sem])
   | false =>
    have hz':okH ⟨false,h1,h2,h3,h4,h5,h6,h7⟩↔(h1=0∧h2=0∧h3=0∧h4=0∧h5=0∧h6=0∧h7=0):=by
     constructor
     ·intro h
      have:=(q1y _).1 (h.2 rfl)
      exact this.2
     ·intro h
      exact ⟨fun h=>absurd h (by simp),fun _=>(q1y _).2 ⟨rfl,h⟩⟩
    rcases kz with kz|kz
    ·obtain rfl:=fin true ⟨fun _=>hz'.2 kz,fun _=>rfl⟩
     rw [if_pos rfl,q01] at hk
     obtain ⟨rfl,rfl,rfl,rfl,rfl,rfl,rfl⟩:=kz
     cases b0 with
     | false =>
      (have hc:=hc0; repeat' first|simp only [hc,il46l0_go,il46l0b,go_sem,hs,hget,hlt,hw,e1,e2,hb0,hcs,e3,e4,hH,q05]|((with_reducible first|refine wG (fun hc=>?_) fun hc=>?_|refine wC (fun hc=>?_) fun hc=>?_) <;> try simp only [bq1,bq2] at hc)|with_reducible refine wX fun _=>?_|((with_reducible refine wY ?_ ?_); rfl)|fail)
      all_goals (refine hk _ _ ?_; simp only [go_sem,hs,hw])
     | true =>
      have v1':=v1 rfl
      have hb1':=hb1 rfl
      simp only [Bool.true_and] at hbb
      subst hbb
      (have hc:=hc0; repeat' first|simp only [hc,il46l0_go,il46l0b,go_sem,hs,hget,hlt,hw,e1,e2,hb0,v1',hb1',hpr,hcs,e3,e4,hH,q05]|((with_reducible first|refine wG (fun hc=>?_) fun hc=>?_|refine wC (fun hc=>?_) fun hc=>?_) <;> try simp only [bq1,bq2] at hc)|with_reducible refine wX fun _=>?_|((with_reducible refine wY ?_ ?_); rfl)|fail)
      all_goals (refine hk _ _ ?_; simp only [go_sem,hs,hw])
    ·obtain rfl:=fin false ⟨fun h=>absurd h (by simp),fun h=>absurd (hz'.1 h) kz⟩
     rw [if_neg (by simp),q04] at hk
     have kd:decide (h1=0∧h2=0∧h3=0∧h4=0∧h5=0∧h6=0∧h7=0)=false:=decide_eq_false kz
     cases b0 with
     | false =>
      (have hc:=hc0; repeat' first|simp only [hc,il46l0_go,il46l0b,go_sem,hs,hget,hlt,hw,e1,e2,hb0,hcs,e3,e4,hH,q05,kd]|((with_reducible first|refine wG (fun hc=>?_) fun hc=>?_|refine wC (fun hc=>?_) fun hc=>?_) <;> try simp only [bq1,bq2] at hc)|with_reducible refine wX fun _=>?_|((with_reducible refine wY ?_ ?_); rfl)|fail)
      all_goals (refine hk _ _ _ (.inr ?_); simp only [go_sem])
     | true =>
      have v1':=v1 rfl
      have hb1':=hb1 rfl
      simp only [Bool.true_and] at hbb
      subst hbb
      (have hc:=hc0; repeat' first|simp only [hc,il46l0_go,il46l0b,go_sem,hs,hget,hlt,hw,e1,e2,hb0,v1',hb1',hpr,hcs,e3,e4,hH,q05,kd]|((with_reducible first|refine wG (fun hc=>?_) fun hc=>?_|refine wC (fun hc=>?_) fun hc=>?_) <;> try simp only [bq1,bq2] at hc)|with_reducible refine wX fun _=>?_|((with_reducible refine wY ?_ ?_); rfl)|fail)
      all_goals (refine hk _ _ _ (.inr ?_); simp only [go_sem])
  by_cases i0:0 < i
  ·by_cases g2:P0 < p
   ·exact rest true false (decide_eq_true (by omega)) (fun _=>v1 i0) (fun _=>decide_eq_false (by omega)) rfl (fun _=>g2)
   ·rw [if_neg (by rw [decide_eq_true_eq]; exact fun h=>g2 (h.2.1 i0)),q04] at hk
    have f1:decide ((0:Int) < (i:Int))=true:=decide_eq_true (by omega)
    have f2:decide (p≤P0)=true:=decide_eq_true (by omega)
    have v1':=v1 i0
    (have hc:=hc0; repeat' first|simp only [hc,il46l0_go,il46l0b,go_sem,hs,hget,hlt,hw,hH,q05,e1,e2,f1,f2,v1',hpr]|((with_reducible first|refine wG (fun hc=>?_) fun hc=>?_|refine wC (fun hc=>?_) fun hc=>?_) <;> try simp only [bq1,bq2] at hc)|with_reducible refine wX fun _=>?_|((with_reducible refine wY ?_ ?_); rfl)|fail)
    all_goals (refine hk _ _ _ (.inr ?_); simp only [go_sem])
  ·exact rest false false (decide_eq_false (by omega)) (fun h=>absurd h (by simp)) (fun h=>absurd h (by simp)) rfl (fun h=>absurd h i0)
 ·intro _ e h Y R hlt ⟨hs,hh⟩ hk
  subst hh
  (have hc:=hc0; repeat' first|simp only [hc,il46l0_go,il46l0b,go_sem,hs,hlt]|((with_reducible first|refine wG (fun hc=>?_) fun hc=>?_|refine wC (fun hc=>?_) fun hc=>?_) <;> try simp only [bq1,bq2] at hc)|with_reducible refine wX fun _=>?_|((with_reducible refine wY ?_ ?_); rfl)|fail)
  all_goals (refine hk _ _ _ (.inl ?_); simp only [go_sem])
 ·simp only [go_sem]
 ·intro x e h hx
  rw [q1a] at hx
  rw [List.range_eq_range']
  rcases hx with ⟨hb,rfl⟩|⟨hb,rfl,e2⟩
  ·(have hc:=hc0; repeat' first|simp only [hc,il46c,go_sem,hb]|((with_reducible first|refine wG (fun hc=>?_) fun hc=>?_|refine wC (fun hc=>?_) fun hc=>?_) <;> try simp only [bq1,bq2] at hc)|with_reducible refine wX fun _=>?_|((with_reducible refine wY ?_ ?_); rfl)|fail)
  ·(have hc:=hc0; repeat' first|simp only [hc,il46c,go_sem,e2,hb]|((with_reducible first|refine wG (fun hc=>?_) fun hc=>?_|refine wC (fun hc=>?_) fun hc=>?_) <;> try simp only [bq1,bq2] at hc)|with_reducible refine wX fun _=>?_|((with_reducible refine wY ?_ ?_); rfl)|fail)
end Go.Proofs.YtbibdnlbpjnieaaGreat
namespace Go.Proofs.YtbibdnlbpjnieaaGreat
open Go Go.Abs
theorem qhZ (f:Fl) (w:Nw) (hd:w.down.length=w.t.links.length) (hL:w.t.links.length≤1000) (n:Nat) (c1 c2 c3:Bool) (b:Br) (pr:Int) (P:List Nat) (F2 F3:T) (hP:∀ p∈P,p < 2*w.t.links.length) (hPl:P.length≤900) (hb:b.heard.length=P.length)
  (J:Inl) (nn:Nat) (hn:1000 < nn) (R:Xit→FEnv→Heap→Prop) (e:FEnv)
  (he:e 1=.t (.ip (nwC f w))∧e 3=.t (I (n:Nat))∧e 4=.ref 0 1 0 0∧e 5=.ref 1 1 0 0∧e 6=.t (I 0))
  (hR1:quietB w P b=true→∀ e,(e 1=.t (.ip (nwC f w))∧e 3=.t (I (n:Nat))∧e 4=.ref 0 1 0 0∧e 5=.ref 1 1 0 0)→R (.exit 2) e [.row 5 [.t (brT c1 c2 c3 b)] 1,.row 5 [.t (.agg [I pr,I (n:Nat),.sl false 1 ((P.map ofN).map I),F2,F3])] 1])
  (hR2:quietB w P b=false→∀ e hh,e 2=.t (B false)→R .ret e hh) :
  wpIter 2 (some [1,3,4,5,6]) (wc Tryz.prog pol (ans Tryz.prog pol) J nn 18 il18l0) R nn e [.row 5 [.t (brT c1 c2 c3 b)] 1,.row 5 [.t (.agg [I pr,I (n:Nat),.sl false 1 ((P.map ofN).map I),F2,F3])] 1]:=by
 refine q06 P (fun p=>I (ofN p)) (step:=fun i _ (_:Unit)=>if (!(dnA w (P[i]?.getD 0 / 2) && (hrd b i).is))=true then Ctl.go () else Ctl.out false) (fin:=fun _=>true)
  (St:=fun i _ e h=>(e 1=.t (.ip (nwC f w))∧e 3=.t (I (n:Nat))∧e 4=.ref 0 1 0 0∧e 5=.ref 1 1 0 0∧e 6=.t (I (i:Nat)))∧h=[.row 5 [.t (brT c1 c2 c3 b)] 1,.row 5 [.t (.agg [I pr,I (n:Nat),.sl false 1 ((P.map ofN).map I),F2,F3])] 1])
  (Ex:=fun r x e h=>r=true∧x=.exit 2∧(e 1=.t (.ip (nwC f w))∧e 3=.t (I (n:Nat))∧e 4=.ref 0 1 0 0∧e 5=.ref 1 1 0 0)∧h=[.row 5 [.t (brT c1 c2 c3 b)] 1,.row 5 [.t (.agg [I pr,I (n:Nat),.sl false 1 ((P.map ofN).map I),F2,F3])] 1]∨r=false∧x=.ret∧e 2=.t (B false)) (s:=()) (by omega) ?_ ?_ (by omega) ⟨he,rfl⟩ ?_
 ·intro i p _ e h Y R' hm hi hx hget hlt hw ⟨hs,hh⟩ hk
  subst hh
  have hp:=hP p hm
  have hPx:P[i]?.getD 0=p:=by rw [hx]; rfl
  rw [hPx] at hk
  have gp:((P.map ofN).map I)[i]? = some (I (p:Nat)):=by simp [hx,ofN]
  have hPL:((P.map ofN).map I).length=P.length:=by simp
  have gd:(w.down.map B)[p / 2]? = some (B (dnA w (p / 2))):=by simp [dnA,show p / 2 < w.down.length by omega]
  have gh:(b.heard.map encH)[i]? = some (encH (hrd b i)):=by simp [hrd,show i < b.heard.length by omega]
  have v:=q1h hp hL
  generalize hrd b i=H at *
  cases hdn:dnA w (p / 2) with
  | false =>
   rw [hdn] at gd hk
   rw [if_pos (by simp),q01] at hk
   (repeat' first|simp only [il18l0_go,il18l0b,go_sem,hs,gp,hPL,gd,v,hlt,hw,List.length_map]|with_reducible refine wX fun _=>?_|((with_reducible refine wY ?_ ?_); rfl)|fail)
   all_goals (refine hk _ _ ⟨?_,rfl⟩; simp only [go_sem,hs,hw])
  | true =>
   rw [hdn] at gd hk
   cases hH:H.is with
   | false =>
    rw [hH] at hk
    rw [if_pos (by simp),q01] at hk
    (repeat' first|simp only [il18l0_go,il18l0b,go_sem,hs,gp,hPL,gd,gh,q05,hH,v,hlt,hw,List.length_map]|with_reducible refine wX fun _=>?_|((with_reducible refine wY ?_ ?_); rfl)|fail)
    all_goals (refine hk _ _ ⟨?_,rfl⟩; simp only [go_sem,hs,hw])
   | true =>
    rw [hH] at hk
    rw [if_neg (by simp),q04] at hk
    (repeat' first|simp only [il18l0_go,il18l0b,go_sem,hs,gp,hPL,gd,gh,q05,hH,v,hlt,List.length_map]|with_reducible refine wX fun _=>?_|((with_reducible refine wY ?_ ?_); rfl)|fail)
    all_goals (refine hk _ _ _ (.inr ⟨rfl,rfl,?_⟩); simp only [go_sem])
 ·intro _ e h Y R' hlt ⟨hs,hh⟩ hk
  subst hh
  (repeat' first|simp only [il18l0_go,il18l0b,go_sem,hs,hlt,List.length_map]|with_reducible refine wX fun _=>?_|((with_reducible refine wY ?_ ?_); rfl)|fail)
  all_goals (refine hk _ _ _ (.inl ⟨rfl,rfl,?_,rfl⟩); simp only [go_sem,hs])
 ·intro x e h hx
  rw [q1a (p:=fun i=>!(dnA w (P[i]?.getD 0 / 2) && (hrd b i).is)),← List.range_eq_range'] at hx
  rcases hx with ⟨h1,rfl,h2,rfl⟩|⟨h1,rfl,h2⟩
  ·exact hR1 h1 _ h2
  ·exact hR2 h1 _ _ h2
theorem qi0 (f:Fl) (w:Nw) (hz:∀ x∈w.bs,x.z=false) (h1:w.prios.length≤900) (h2:w.bs.length≤900) (h3:∀ x∈w.bs,x.b.ports.length≤900∧x.b.costs.length≤900):ans Tryz.prog pol 18 [nwT f w]=some (B (okN w)):=by
 have k1:=qgc f.st f.lk w.t
 have k2:=qgd f.pr f.st f.lk w.t w.prios h1
 cases q1:okT w.t with
 | false =>
  rw [q1] at k1
  rw [show okN w=false by simp [okN,q1]]
  refine q00 1 1 il18_eq (Nat.le_of_ble_eq_true rfl) ?_
  (repeat' first|simp only [il18c,go_sem,k1]|with_reducible refine wX fun _=>?_|((with_reducible refine wY ?_ ?_); rfl)|fail)
 | true =>
 rw [q1] at k1
 obtain ⟨z1,z2,z3⟩:=q02 q1
 cases q2:rankL w.t w.prios with
 | false =>
  rw [q2] at k2
  rw [show okN w=false by simp [okN,q1,q2]]
  refine q00 1 1 il18_eq (Nat.le_of_ble_eq_true rfl) ?_
  (repeat' first|simp only [il18c,go_sem,k1,k2]|with_reducible refine wX fun _=>?_|((with_reducible refine wY ?_ ?_); rfl)|fail)
 | true =>
 rw [q2] at k2
 by_cases q4:w.down.length=w.t.links.length
 rotate_left
 ·have d4:decide ((w.down.length:Int)=(w.t.links.length:Nat))=false:=decide_eq_false (by omega)
  rw [show okN w=false by simp [okN,q1,q2,q4]]
  refine q00 1 1 il18_eq (Nat.le_of_ble_eq_true rfl) ?_
  (repeat' first|simp only [il18c,go_sem,k1,k2,d4]|with_reducible refine wX fun _=>?_|((with_reducible refine wY ?_ ?_); rfl)|fail)
 have d4:decide ((w.down.length:Int)=(w.t.links.length:Nat))=true:=decide_eq_true (by omega)
 by_cases q3:(w.bs.length:Int)=w.t.nodes
 rotate_left
 ·have d3:=decide_eq_false q3
  rw [show okN w=false by simp [okN,q1,q2,d3]]
  refine q00 1 1 il18_eq (Nat.le_of_ble_eq_true rfl) ?_
  (repeat' first|simp only [il18c,go_sem,k1,k2,d4,d3]|with_reducible refine wX fun _=>?_|((with_reducible refine wY ?_ ?_); rfl)|fail)
 have d3:=decide_eq_true q3
 have ho:okN w=(List.range w.bs.length).all (soundN w):=by rw [okN,q1,q2,d3,decide_eq_true q4]; simp only [Bool.true_and]
 rw [ho]
 generalize hN:w.bs.length=N at *
 have hpl:=q0H q2
 obtain ⟨nn,hn⟩:∃ nn,1000 < nn+1:=⟨1001,by omega⟩
 refine q00 (nn+1) 2 il18_eq (Nat.le_of_ble_eq_true rfl) ?_
 (repeat' first|simp only [il18c,go_sem,k1,k2,d4,d3,hN]|with_reducible refine wX fun _=>?_|((with_reducible refine wY ?_ ?_); rfl)|fail)
 refine q0r N (step:=fun n (_:Unit)=>if soundN w n=true then Ctl.go () else Ctl.out false) (fin:=fun _=>true)
  (St:=fun n _ e h=>(e 1=.t (.ip (nwC f w))∧e 3=.t (I (n:Nat)))∧h=[])
  (Ex:=fun r x e h=>(r=true∧x=.exit 0∧h=[])∨(r=false∧x=.ret∧e 2=.t (B false))) (s:=()) (by omega) ?_ ?_ (by omega) ?_ ?_
 ·intro n _ e h Y R hi hlt hw ⟨hs,hh⟩ hk
  subst hh
  rw [q3] at hlt
  have hnb:n < w.bs.length:=by omega
  have gb:(w.bs.map encX)[n]? = some (encX (bxA w n)):=by simp [bxA,hnb]
  have hm:bxA w n∈w.bs:=by rw [bxA,List.getElem?_eq_getElem hnb]; exact List.getElem_mem hnb
  have hxz:=hz _ hm
  obtain ⟨hx1,hx2⟩:=h3 _ hm
  have gs:(w.t.station.map B)[n]? = some (B (stA w.t n)):=by simp [stA,show n < w.t.station.length by omega]
  have kF:=qhV f w n q1 (by omega) (by omega)
  have kS:=qhW f w n q1 (by omega) (by omega)
  have hsn:soundN w n=if stA w.t n=true then emptyB (bxA w n).b else okB (bxA w n).b && (decide ((bxA w n).b.p=prA w n∧(bxA w n).b.n=(n:Nat)) && (decide ((bxA w n).b.ports=(trunkL w.t n).map ofN) && (decide ((bxA w n).b.costs=costL w.t n) && quietB w (trunkL w.t n) (bxA w n).b))):=rfl
  have h24:=q1k q1 (n:Nat)
  have hplt:=fun p=>@q1D w.t (n:Nat) p
  have hcl:(costL w.t n).length=(trunkL w.t n).length:=by simp [costL]
  generalize bxA w n=x at *
  obtain ⟨z,c1,c2,c3,b⟩:=x
  dsimp only at hxz hx1 hx2 hsn
  subst hxz
  have ex:encX ⟨false,c1,c2,c3,b⟩=brT c1 c2 c3 b:=rfl
  rw [ex] at gb
  have kR:=qhY c1 c2 c3 b
  cases hst:stA w.t n with
  | true =>
   rw [hst] at gs
   have kS:=kS hst
   have ez:encX zBx=.agg [I 0,I 0,.sc (.slice none 0 0),.sc (.slice none 0 0),.sc (.slice none 0 0)]:=rfl
   rw [ez] at kS
   rw [hst,if_pos rfl] at hsn
   rw [hsn] at hk
   clear hsn
   by_cases hh0:b.heard.length=0
   ·have d0:decide ((b.heard.length:Int)=0)=true:=decide_eq_true (by omega)
    have kE:=q6w (p:=b.p) (n:=b.n) (p':=0) (n':=0) (a3:=[]) (b3:=[]) (q0Y (c:=c1) (k:=1) (xs:=b.ports.map I)) (q0Y (c:=c2) (k:=1) (xs:=b.costs.map I)) (q2z (k:=8)) (b1:=[]) (b2:=[]) (q2z (k:=1)) (q2z (k:=1)) (q2z (k:=8)) (by omega) (by omega) (by simp)
    have hem:emptyB b=decide ((b.p=0∧b.n=0)∧b.ports=[]∧b.costs=[]∧([]:List Hd)=[]):=by
     unfold emptyB
     refine decide_eq_decide.2 ⟨fun ⟨a1,a2,a3,a4⟩=>⟨a1,List.eq_nil_of_length_eq_zero a2,List.eq_nil_of_length_eq_zero a3,rfl⟩,fun ⟨a1,a2,a3,_⟩=>⟨a1,by rw [a2]; rfl,by rw [a3]; rfl,hh0⟩⟩
    rw [hem] at hk
    generalize decide ((b.p=0∧b.n=0)∧b.ports=[]∧b.costs=[]∧([]:List Hd)=[])=r at *
    cases r with
    | true =>
     rw [if_pos rfl,q01] at hk
     (repeat' first|simp only [il18l1_go,il18l1b,go_sem,hs,hlt,hw,gb,gs,kS,d0,kE]|with_reducible refine wX fun _=>?_|((with_reducible refine wY ?_ ?_); rfl)|((with_reducible refine q0C (body:=wc _ _ _ _ _ _ il18l0) ?_ ?_); exact Nat.le_of_ble_eq_true rfl; simp only [il18l0_go,il18l0b])|fail)
     all_goals (refine hk _ _ ⟨?_,rfl⟩; simp only [go_sem,hs,hw])
    | false =>
     rw [if_neg (by simp),q04] at hk
     (repeat' first|simp only [il18l1_go,il18l1b,go_sem,hs,hlt,hw,gb,gs,kS,d0,kE]|with_reducible refine wX fun _=>?_|((with_reducible refine wY ?_ ?_); rfl)|((with_reducible refine q0C (body:=wc _ _ _ _ _ _ il18l0) ?_ ?_); exact Nat.le_of_ble_eq_true rfl; simp only [il18l0_go,il18l0b])|fail)
     all_goals (refine hk _ _ _ (.inr ⟨rfl,rfl,?_⟩); simp only [go_sem])
   ·have d0:decide ((b.heard.length:Int)=0)=false:=decide_eq_false (by omega)
    rw [show emptyB b=false from decide_eq_false (fun k=>hh0 k.2.2.2),if_neg (by simp),q04] at hk
    (repeat' first|simp only [il18l1_go,il18l1b,go_sem,hs,hlt,hw,gb,gs,kS,d0]|with_reducible refine wX fun _=>?_|((with_reducible refine wY ?_ ?_); rfl)|fail)
    all_goals (refine hk _ _ _ (.inr ⟨rfl,rfl,?_⟩); simp only [go_sem])
  | false =>
   rw [hst] at gs
   have kF:=kF hst
   rw [hst,if_neg (by simp)] at hsn
   rw [hsn] at hk
   clear hsn
   have hrl:(List.replicate ((trunkL w.t n).map ofN).length zH).length=(trunkL w.t n).length:=by simp
   simp only [newB] at kF
   generalize hPP:trunkL w.t (n:Nat)=P at *
   generalize hCC:costL w.t (n:Nat)=C at *
   generalize hHH:List.replicate (P.map ofN).length zH=HH at *
   by_cases hh0:b.heard.length=P.length
   rotate_left
   ·have d0:decide ((b.heard.length:Int)=(P.length:Nat))=false:=decide_eq_false (by omega)
    have hno:(okB b && (decide (b.p=prA w n∧b.n=(n:Nat)) && (decide (b.ports=P.map ofN) && (decide (b.costs=C) && quietB w P b))))=false:=by
     by_cases hob:okB b=true
     ·by_cases hpo:b.ports=P.map ofN
      ·exfalso
       simp only [okB,Bool.and_eq_true,decide_eq_true_eq] at hob
       have:=hob.1.1.2.2
       rw [hpo,List.length_map] at this
       exact hh0 this
      ·rw [decide_eq_false hpo]; simp
     ·rw [show okB b=false by simpa using hob,Bool.false_and]
    rw [hno,if_neg (by simp),q04] at hk
    (repeat' first|simp only [il18l1_go,il18l1b,go_sem,hs,hlt,hw,gb,gs,kF,hrl,d0]|with_reducible refine wX fun _=>?_|((with_reducible refine wY ?_ ?_); rfl)|fail)
    all_goals (refine hk _ _ _ (.inr ⟨rfl,rfl,?_⟩); simp only [go_sem])
   ·have d0:decide ((b.heard.length:Int)=(P.length:Nat))=true:=decide_eq_true (by omega)
    cases hob:okB b with
    | false =>
     rw [hob] at kR hk
     rw [Bool.false_and,if_neg (by simp),q04] at hk
     (repeat' first|simp only [il18l1_go,il18l1b,go_sem,hs,hlt,hw,gb,gs,kF,hrl,d0,kR]|with_reducible refine wX fun _=>?_|((with_reducible refine wY ?_ ?_); rfl)|fail)
     all_goals (refine hk _ _ _ (.inr ⟨rfl,rfl,?_⟩); simp only [go_sem])
    | true =>
     rw [hob] at kR hk
     rw [Bool.true_and] at hk
     have kE:=q6w (p:=b.p) (n:=b.n) (p':=prA w n) (n':=(n:Nat)) (a3:=HH) (b3:=HH) (q0Y (c:=c1) (k:=1) (xs:=b.ports.map I)) (q0Y (c:=c2) (k:=1) (xs:=b.costs.map I)) (q0Y (c:=true) (k:=8) (xs:=HH.map encH)) (b1:=P.map ofN) (b2:=C) (q0Y (c:=false) (k:=1) (xs:=(P.map ofN).map I)) (q0Y (c:=false) (k:=1) (xs:=C.map I)) (q0Y (c:=true) (k:=8) (xs:=HH.map encH)) (by omega) (by omega) (by omega)
     have hem:decide ((b.p=prA w n∧b.n=(n:Nat))∧b.ports=P.map ofN∧b.costs=C∧HH=HH)=(decide (b.p=prA w n∧b.n=(n:Nat)) && (decide (b.ports=P.map ofN) && decide (b.costs=C))):=by
      rw [Bool.eq_iff_iff]; simp only [Bool.and_eq_true,decide_eq_true_eq]
      exact ⟨fun ⟨a1,a2,a3,_⟩=>⟨a1,a2,a3⟩,fun ⟨a1,a2,a3⟩=>⟨a1,a2,a3,by trivial⟩⟩
     rw [hem] at kE
     have hass:(decide (b.p=prA w n∧b.n=(n:Nat)) && (decide (b.ports=P.map ofN) && (decide (b.costs=C) && quietB w P b)))=(quietB w P b && (decide (b.p=prA w n∧b.n=(n:Nat)) && (decide (b.ports=P.map ofN) && decide (b.costs=C)))):=by
      cases quietB w P b <;> simp
     rw [hass] at hk
     generalize (decide (b.p=prA w n∧b.n=(n:Nat)) && (decide (b.ports=P.map ofN) && decide (b.costs=C)))=r at *
     generalize prA w n=pr at *
     clear hass hem
     (repeat' first|simp only [il18l1_go,il18l1b,go_sem,hs,hlt,hw,gb,gs,kF,hrl,d0,kR]|with_reducible refine wX fun _=>?_|((with_reducible refine wY ?_ ?_); rfl)|fail)
     refine qhZ f w q4 (by omega) n c1 c2 c3 b pr P (.sl false 1 (C.map I)) (.sl true 8 (HH.map encH)) hplt (by omega) hh0 _ (nn+1) hn _ _ (by simp only [go_sem,hs]) ?_ ?_
     ·intro hq e1 he1
      rw [hq,Bool.true_and] at hk
      cases r with
      | true =>
       rw [if_pos rfl,q01] at hk
       (repeat' first|simp only [il18l1_go,il18l1b,go_sem,he1,hw,kE]|with_reducible refine wX fun _=>?_|((with_reducible refine wY ?_ ?_); rfl)|fail)
       all_goals (refine hk _ _ ⟨?_,rfl⟩; simp only [go_sem,he1,hw])
      | false =>
       rw [if_neg (by simp),q04] at hk
       (repeat' first|simp only [il18l1_go,il18l1b,go_sem,he1,hw,kE]|with_reducible refine wX fun _=>?_|((with_reducible refine wY ?_ ?_); rfl)|fail)
       all_goals (refine hk _ _ _ (.inr ⟨rfl,rfl,?_⟩); simp only [go_sem])
     ·intro hq e1 hh he1
      rw [hq,Bool.false_and,if_neg (by simp),q04] at hk
      (repeat' first|simp only [il18l1_go,il18l1b,go_sem,he1]|with_reducible refine wX fun _=>?_|((with_reducible refine wY ?_ ?_); rfl)|fail)
      all_goals (refine hk _ _ _ (.inr ⟨rfl,rfl,?_⟩); simp only [go_sem,he1])
 ·intro _ e h Y R hlt ⟨hs,hh⟩ hk
  subst hh
  have hlt:decide ((N:Int) < w.t.nodes)=false:=by rw [← q3]; exact hlt
  (repeat' first|simp only [il18l1_go,il18l1b,go_sem,hs,hlt]|with_reducible refine wX fun _=>?_|((with_reducible refine wY ?_ ?_); rfl)|fail)
  all_goals exact hk _ _ _ (.inl ⟨rfl,rfl,rfl⟩)
 ·refine ⟨?_,rfl⟩
  simp only [go_sem]
 ·intro x e h hx
  rw [foldC_all,← List.range_eq_range'] at hx
  rcases hx with ⟨h1,rfl,rfl⟩|⟨h1,rfl,h2⟩
  ·rw [h1]
   (repeat' first|simp only [il18c,go_sem]|with_reducible refine wX fun _=>?_|((with_reducible refine wY ?_ ?_); rfl)|fail)
  ·rw [h1]
   (repeat' first|simp only [il18c,go_sem,h2]|with_reducible refine wX fun _=>?_|((with_reducible refine wY ?_ ?_); rfl)|fail)
end Go.Proofs.YtbibdnlbpjnieaaGreat
namespace Go.Proofs.YtbibdnlbpjnieaaGreat
open Go Go.Abs
def msgH (h:Hd):Msg:=⟨16*h.a+h.b,h.c,16*h.d+h.e,h.f,h.g⟩
def hM (h:Hd):Option Msg:=if h.is=true then some (msgH h) else none
section
variable {w:Nw} (h:VN w)
include h
end
def runW (w:Nw):Nat→Nw
 | 0=>w
 | T+1=>rndW (runW w T)
theorem VN.run {w:Nw} (h:VN w) (T:Nat):VN (runW w T):=by
 induction T with
 | zero=>exact h
 | succ T ih=>exact ih.rnd
end Go.Proofs.YtbibdnlbpjnieaaGreat
namespace Go.Proofs.YtbibdnlbpjnieaaGreat
open Go Go.Abs
def kE (cut:Nat→Bool) (i:Nat) (l:Lk):List Ed:=if cut i=true then [] else [⟨l.a.toNat,l.b.toNat,0⟩,⟨l.b.toNat,l.a.toNat,0⟩]
end Go.Proofs.YtbibdnlbpjnieaaGreat
namespace Go.Proofs.YtbibdnlbpjnieaaGreat
open Go Go.Abs
theorem q42 {w:Nw} {r:Nat→Nat→Int} {n p:Nat}:∀ (l:List Nat) (s:List Int × Nat),s.1.length=2*w.t.links.length→p < 2*w.t.links.length →
  ((l.foldl (asQ w r n) s).1)[p]? = if p∈l then some (asV w r n p) else s.1[p]?:=by
 intro l
 induction l with
 | nil=>intro s _ _; simp
 | cons q l ih =>
  intro s hs hp
  rw [List.foldl_cons,ih (asQ w r n s q) (by simp [asQ,hs]) hp]
  by_cases hl:p∈l
  ·rw [if_pos hl,if_pos (List.mem_cons_of_mem _ hl)]
  ·rw [if_neg hl]
   by_cases e:p=q
   ·subst e
    rw [if_pos (List.mem_cons_self ..),asQ,List.getElem?_set_self (by omega)]
   ·rw [if_neg (by simp [e,hl]),asQ,List.getElem?_set_ne (fun h=>e h.symm)]
theorem qi1 {w:Nw} {r:Nat→Nat→Int} {n p:Nat} (hp:p < 2*w.t.links.length) (hf:frP w.t p=(n:Nat)) (hn:n < w.bs.length) (hs:stA w.t n=false):(asL w r)[p]? = some (asV w r n p):=by
 have key:∀ (l:List Nat) (s:List Int × Nat),s.1.length=2*w.t.links.length→((l.foldl (stS w.t (asN w r)) s).1)[p]? = if n∈l then some (asV w r n p) else s.1[p]?:=by
  intro l
  induction l with
  | nil=>intro s _; simp
  | cons m l ih =>
   intro s hl
   rw [List.foldl_cons,ih]
   ·by_cases h1:n∈l
    ·rw [if_pos h1,if_pos (List.mem_cons_of_mem _ h1)]
    ·rw [if_neg h1]
     unfold stS
     by_cases e:n=m
     ·subst e
      rw [if_pos (List.mem_cons_self ..),if_neg (by rw [hs]; simp),asN,q42 _ _ hl hp,if_pos]
      simp only [portsL,List.mem_filter,List.mem_range,decide_eq_true_eq]
      exact ⟨hp,hf⟩
     ·rw [if_neg (show ¬ n∈m::l by simp [e,h1])]
      split
      ·rfl
      ·rw [asN,q42 _ _ hl hp,if_neg]
       simp only [portsL,List.mem_filter,List.mem_range,decide_eq_true_eq]
       omega
   ·unfold stS
    split
    ·exact hl
    ·have:∀ (l:List Nat) (s:List Int × Nat),s.1.length=2*w.t.links.length→((l.foldl (asQ w r m) s).1).length=2*w.t.links.length:=by
      intro l
      induction l with
      | nil=>intro s h; exact h
      | cons q l ih=>intro s h; rw [List.foldl_cons]; exact ih _ (by simp [asQ,h])
     exact this _ _ hl
 rw [asL,key _ _ (by simp),if_pos (List.mem_range.2 hn)]
def gA (w:Nw) (p:Nat):Int:=(asL w (goalW w))[p]?.getD 0
section
variable {w:Nw} (h:VN w)
include h
end
end Go.Proofs.YtbibdnlbpjnieaaGreat
namespace Go.Proofs.YtbibdnlbpjnieaaGreat
open Go Go.Abs
section
variable (c1 c2 c3:Bool) (b:Br)
theorem q7o (i:Nat) (hi:i < b.heard.length) (hcl:b.costs.length=b.heard.length) (hb:-1000000000≤(ofr b i).c∧(ofr b i).c≤1000000000) :
  ans Tryz.prog pol 127 [brT c1 c2 c3 b,I (i:Nat)]=some (.tup [rkT (ofr b i),B (leads b i)]):=by
 have hg:(b.heard.map encH)[i]? = some (encH (hrd b i)):=by simp [hrd,hi]
 have hcs:(b.costs.map I)[i]? = some (I (cst b i)):=by simp [cst,show i < b.costs.length by omega]
 have v1:IntKind.i64.wrap ((hrd b i).c+cst b i)=(hrd b i).c+cst b i:=q09 (by simp only [ofr] at hb; omega) (by simp only [ofr] at hb; omega)
 have hL:leads b i=((hrd b i).is && (decide ((hrd b i).c+cst b i≤1048576) && (decide ((hrd b i).a < b.p) || (decide ((hrd b i).a=b.p) && decide ((hrd b i).b < b.n))))):=by
  have hA:(!decide (1048576 < (hrd b i).c+cst b i))=decide ((hrd b i).c+cst b i≤1048576):=by
   rw [Bool.eq_iff_iff]; simp only [Bool.not_eq_true',decide_eq_false_iff_not,decide_eq_true_eq]; omega
  have hB:decide (lt2 (hrd b i).a (hrd b i).b b.p b.n)=(decide ((hrd b i).a < b.p) || (decide ((hrd b i).a=b.p) && decide ((hrd b i).b < b.n))):=by
   rw [Bool.eq_iff_iff]; simp only [Bool.and_eq_true,Bool.or_eq_true,decide_eq_true_eq,lt2]; exact decide_eq_true_iff
  rw [leads,show (ofr b i).c=(hrd b i).c+cst b i from rfl,hA,hB,Bool.and_assoc]
 rw [hL]
 simp only [ofr]
 generalize hd1:decide ((hrd b i).a < b.p)=d1
 generalize hd2:decide ((hrd b i).a=b.p)=d2
 generalize hd3:decide ((hrd b i).b < b.n)=d3
 generalize hd4:decide ((hrd b i).c+cst b i≤1048576)=d4
 cases q0:(hrd b i).is <;> cases d1 <;> cases d2 <;> cases d3 <;> cases d4
 all_goals refine q00 1 1 il127_eq (Nat.le_of_ble_eq_true rfl) ?_
 all_goals ((repeat' first|simp only [il127c,go_sem,hg,hcs,q05,v1,hd1,hd2,hd3,hd4,q0]|with_reducible refine wX fun _=>?_|((with_reducible refine wY ?_ ?_); rfl)|fail))
def Iv (b:Br) (s:Os'):Prop:=s.t.via = -1∨∃ j:Nat,j < b.ports.length∧s.t.via=j∧s.m=ofr b j
theorem q7p (hb:okB b=true):ans Tryz.prog pol 95 [brT c1 c2 c3 b]=some (I (opF b).t.via):=by
 have hl:=q0t hb
 simp only [okL] at hl
 have hof:=fun i (hi:i < b.ports.length)=>q7o c1 c2 c3 b i (by omega) (by omega) (q3B hb i (by omega))
 have hpl:b.ports.length=b.heard.length:=by omega
 refine q00 100 1 il95_eq (Nat.le_of_ble_eq_true rfl) ?_
 (repeat' first|simp only [il95c,go_sem]|with_reducible refine wX fun _=>?_|((with_reducible refine wY ?_ ?_); rfl)|fail)
 refine q0r b.ports.length (step:=fun i (s:Os')=>Ctl.go (ldS b (opS b) s i)) (fin:=id)
  (St:=fun i s e h=>(e 1=.t (.ip (brC c1 c2 c3 b))∧e 3=.t (I s.t.via)∧e 4=.t (I (i:Nat)))∧h=[]∧Iv b s)
  (Ex:=fun s x e h=>e 3=.t (I s.t.via)∧x=.exit 0∧h=[]) (s:=⟨tp0 b,zH,0⟩) (by omega) ?_ ?_ (by omega) ?_ ?_
 ·intro i s e h Y R hi hlt hw ⟨hs,hh,hiv⟩ hk
  subst hh
  simp only [q01] at hk
  have k1:=hof i hi
  by_cases q:leads b i=true
  rotate_left
  ·rw [ldS,if_neg q] at hk
   have q':leads b i=false:=by simpa using q
   rw [q'] at k1
   generalize ofr b i=v at *
   (repeat' first|simp only [il95l0_go,il95l0b,go_sem,hs,hlt,k1,hw]|with_reducible refine wX fun _=>?_|((with_reducible refine wY ?_ ?_); rfl)|fail)
   all_goals (refine hk _ _ ⟨?_,rfl,hiv⟩; simp only [go_sem,hs,hw])
  rw [ldS,if_pos q] at hk
  rw [q] at k1
  rcases hiv with hv|⟨j,hj,hv,hm⟩
  ·have hv0:s.t.via < 0:=by omega
   rw [opS,if_pos (.inl hv0)] at hk
   have hiv':Iv b ⟨⟨(ofr b i).a,(ofr b i).b,(ofr b i).c,i,(ofr b i).g⟩,ofr b i,1⟩:=.inr ⟨i,hi,rfl,rfl⟩
   have d0:decide ((-1:Int) < 0)=true:=by decide
   rw [hv] at hs
   generalize ofr b i=v at *
   (repeat' first|simp only [il95l0_go,il95l0b,go_sem,hs,hlt,k1,hw,d0]|with_reducible refine wX fun _=>?_|((with_reducible refine wY ?_ ?_); rfl)|fail)
   all_goals (refine hk _ _ ⟨?_,rfl,hiv'⟩; simp only [go_sem,hs,hw])
  ·have d0:decide (((j:Nat):Int) < 0)=false:=decide_eq_false (by omega)
   have k2:=hof j hj
   have k3:=q6n (ofr b i) (ofr b j)
   by_cases q2:lt6 (ofr b i) s.m < 0
   ·rw [opS,if_pos (.inr q2)] at hk
    have hiv':Iv b ⟨⟨(ofr b i).a,(ofr b i).b,(ofr b i).c,i,(ofr b i).g⟩,ofr b i,1⟩:=.inr ⟨i,hi,rfl,rfl⟩
    rw [hm] at q2
    rw [decide_eq_true q2] at k3
    rw [hv] at hs
    generalize ofr b i=v at *
    generalize ofr b j=w at *
    (repeat' first|simp only [il95l0_go,il95l0b,go_sem,hs,hlt,k1,k2,k3,hw,d0]|with_reducible refine wX fun _=>?_|((with_reducible refine wY ?_ ?_); rfl)|fail)
    all_goals (refine hk _ _ ⟨?_,rfl,hiv'⟩; simp only [go_sem,hs,hw])
   ·rw [opS,if_neg (by rintro (h|h); omega; exact q2 h)] at hk
    have hiv':Iv b s:=.inr ⟨j,hj,hv,hm⟩
    rw [hm] at q2
    rw [decide_eq_false q2] at k3
    rw [hv] at hs
    clear hm
    generalize ofr b i=v at *
    generalize ofr b j=w at *
    (repeat' first|simp only [il95l0_go,il95l0b,go_sem,hs,hlt,k1,k2,k3,hw,d0]|with_reducible refine wX fun _=>?_|((with_reducible refine wY ?_ ?_); rfl)|fail)
    all_goals (refine hk _ _ ⟨?_,rfl,hiv'⟩; simp only [go_sem,hs,hw,hv])
 ·intro s e h Y R hlt ⟨hs,hh,hiv⟩ hk
  subst hh
  (repeat' first|simp only [il95l0_go,il95l0b,go_sem,hs,hlt]|with_reducible refine wX fun _=>?_|((with_reducible refine wY ?_ ?_); rfl)|fail)
  all_goals (refine hk _ _ _ ⟨?_,rfl,rfl⟩; simp only [go_sem,hs,id])
 ·refine ⟨?_,rfl,.inl rfl⟩
  simp only [go_sem,tp0]
 ·intro x e h ⟨h1,h2,h3⟩
  subst h2 h3
  have hf:∀ (k i:Nat) (s:Os'),foldC (ρ:=Os') (fun i (_:Unit) s=>Ctl.go (ldS b (opS b) s i)) id i (List.replicate k ()) s=(List.range' i k).foldl (ldS b (opS b)) s:=by
   intro k
   induction k with
   | zero=>intro i s; rfl
   | succ k ih=>intro i s; rw [List.replicate_succ,q07 (s':=ldS b (opS b) s i) rfl,ih,List.range'_succ]; rfl
  rw [hf,← List.range_eq_range',hpl] at h1
  rw [opF]
  generalize List.foldl (ldS b (opS b)) ⟨tp0 b,zH,0⟩ (List.range b.heard.length)=s at *
  (repeat' first|simp only [il95c,go_sem,h1]|with_reducible refine wX fun _=>?_|((with_reducible refine wY ?_ ?_); rfl)|fail)
theorem qi2 (hb:okB b=true) (i:Nat) (hi:i < b.ports.length):ans Tryz.prog pol 97 [brT c1 c2 c3 b,I (i:Nat)]=some (rkT (clm b (opF b).t i)):=by
 have hl:=q0t hb
 simp only [okL] at hl
 have hg:(b.ports.map I)[i]? = some (I (prt b i)):=by simp [prt,hi]
 have k0:=q7p c1 c2 c3 b hb
 rcases q6B b with h|⟨j,hj,hld,h⟩
 ·rw [h] at k0 ⊢
  simp only [clm,tp0] at k0 ⊢
  generalize prt b i=P at *
  refine q00 1 1 il97_eq (Nat.le_of_ble_eq_true rfl) ?_
  (repeat' first|simp only [il97c,go_sem,hg,k0]|with_reducible refine wX fun _=>?_|((with_reducible refine wY ?_ ?_); rfl)|fail)
 ·rw [h] at k0 ⊢
  have k1:=q7o c1 c2 c3 b j hj (by omega) (q3B hb j hj)
  have d0:decide (0≤((j:Nat):Int))=true:=decide_eq_true (by omega)
  have d0':decide (((j:Nat):Int) < 0)=false:=decide_eq_false (by omega)
  simp only [clm] at k0 ⊢
  generalize prt b i=P at *
  generalize ofr b j=v at *
  refine q00 1 1 il97_eq (Nat.le_of_ble_eq_true rfl) ?_
  (repeat' first|simp only [il97c,go_sem,hg,k0,k1,d0,d0']|with_reducible refine wX fun _=>?_|((with_reducible refine wY ?_ ?_); rfl)|fail)
theorem qi3 (hb:okB b=true) (i:Nat) (hi:i < b.ports.length):ans Tryz.prog pol 50 [brT c1 c2 c3 b,I (i:Nat)]=some (I (roleF b (opF b).t i)):=by
 have hl:=q0t hb
 simp only [okL] at hl
 have hg:(b.heard.map encH)[i]? = some (encH (hrd b i)):=by simp [hrd,show i < b.heard.length by omega]
 have k0:=q7p c1 c2 c3 b hb
 have k1:=qi2 c1 c2 c3 b hb i hi
 generalize (opF b).t=t at *
 have k2:=q6n (clm b t i) (hrd b i)
 refine q00 1 1 il50_eq (Nat.le_of_ble_eq_true rfl) ?_
 by_cases q0:(i:Int)=t.via
 ·have d0:decide (t.via=(i:Int))=true:=decide_eq_true q0.symm
  rw [roleF,if_pos q0]
  (repeat' first|simp only [il50c,go_sem,hg,q05,k0,d0]|with_reducible refine wX fun _=>?_|((with_reducible refine wY ?_ ?_); rfl)|fail)
 have d0:decide (t.via=(i:Int))=false:=decide_eq_false (fun h=>q0 h.symm)
 rw [roleF,if_neg q0]
 by_cases q1:(hrd b i).is=false
 ·rw [if_pos (.inl q1)]
  (repeat' first|simp only [il50c,go_sem,hg,q05,k0,d0,q1]|with_reducible refine wX fun _=>?_|((with_reducible refine wY ?_ ?_); rfl)|fail)
 have q1':(hrd b i).is=true:=by simpa using q1
 by_cases q2:lt6 (clm b t i) (hrd b i) < 0
 ·rw [decide_eq_true q2] at k2
  rw [if_pos (.inr q2)]
  generalize clm b t i=v at *
  (repeat' first|simp only [il50c,go_sem,hg,q05,k0,d0,q1',k1,k2]|with_reducible refine wX fun _=>?_|((with_reducible refine wY ?_ ?_); rfl)|fail)
 ·rw [decide_eq_false q2] at k2
  rw [if_neg (by rintro (h|h); exact q1 h; exact q2 h)]
  generalize clm b t i=v at *
  (repeat' first|simp only [il50c,go_sem,hg,q05,k0,d0,q1',k1,k2]|with_reducible refine wX fun _=>?_|((with_reducible refine wY ?_ ?_); rfl)|fail)
end
end Go.Proofs.YtbibdnlbpjnieaaGreat
namespace Go.Proofs.YtbibdnlbpjnieaaGreat
open Go Go.Abs
def outT (w:Nw) (p:Nat):Int × Bool:=if dnA w (p / 2)=true∨stA w.t (frP w.t p).toNat=true then (0,true) else (2,stA w.t (toP w.t p).toNat)
theorem q7q (f:Fl) (w:Nw) (h:okT w.t=true) (hd:w.down.length=w.t.links.length) (p:Nat) (hp:p < 2*w.t.links.length):ans Tryz.prog pol 48 [nwT f w,I (p:Nat)]=some (.tup [I (outT w p).1,B (outT w p).2]):=by
 obtain ⟨z1,z2,z3⟩:=q02 h
 have k1:=q1i f.st f.lk w.t p hp (by omega)
 have k2:=q1j f.st f.lk w.t p hp (by omega)
 obtain ⟨g1,q1⟩:=q0A w.t z2 (q0D h hp)
 obtain ⟨g2,q2⟩:=q0A w.t z2 (q0v h hp)
 have gd:(w.down.map B)[p / 2]? = some (B (dnA w (p / 2))):=by simp [dnA,show p / 2 < w.down.length by omega]
 have v:=q1h hp (show w.t.links.length≤1000 by omega)
 unfold outT
 generalize frP w.t p=A at *
 generalize toP w.t p=C at *
 refine q00 1 1 il48_eq (Nat.le_of_ble_eq_true rfl) ?_
 cases hdn:dnA w (p / 2) with
 | true =>
  rw [hdn] at gd
  rw [if_pos (.inl rfl)]
  (repeat' first|simp only [il48c,go_sem,k1,k2,gd,v]|with_reducible refine wX fun _=>?_|((with_reducible refine wY ?_ ?_); rfl)|fail)
 | false =>
  rw [hdn] at gd
  cases hs:stA w.t A.toNat with
  | true =>
   rw [hs] at g1
   rw [if_pos (.inr rfl)]
   (repeat' first|simp only [il48c,go_sem,k1,k2,gd,v,g1,q1]|with_reducible refine wX fun _=>?_|((with_reducible refine wY ?_ ?_); rfl)|fail)
  | false =>
   rw [hs] at g1
   rw [if_neg (by simp)]
   (repeat' first|simp only [il48c,go_sem,k1,k2,gd,v,g1,q1,g2,q2]|with_reducible refine wX fun _=>?_|((with_reducible refine wY ?_ ?_); rfl)|fail)
theorem qi4 {w:Nw} {r:Nat→Nat→Int} {n p:Nat} (hp:p < 2*w.t.links.length) (hf:frP w.t p=(n:Nat)) (hs:stA w.t n=true):(asL w r)[p]? = some 0:=by
 have len1:∀ (m:Nat) (l:List Nat) (s:List Int × Nat),s.1.length=2*w.t.links.length→((l.foldl (asQ w r m) s).1).length=2*w.t.links.length:=by
  intro m l
  induction l with
  | nil=>intro s h; exact h
  | cons q l ih=>intro s h; rw [List.foldl_cons]; exact ih _ (by simp [asQ,h])
 have key:∀ (l:List Nat) (s:List Int × Nat),s.1.length=2*w.t.links.length→((l.foldl (stS w.t (asN w r)) s).1)[p]? = s.1[p]?:=by
  intro l
  induction l with
  | nil=>intro s _; rfl
  | cons m l ih =>
   intro s hl
   rw [List.foldl_cons,ih]
   ·unfold stS
    by_cases hm:stA w.t m=true
    ·rw [if_pos hm]
    ·rw [if_neg hm,asN,q42 _ _ hl hp,if_neg]
     simp only [portsL,List.mem_filter,List.mem_range,decide_eq_true_eq]
     intro hc
     rw [hf] at hc
     have:n=m:=by omega
     rw [this] at hs
     exact hm hs
   ·unfold stS
    split
    ·exact hl
    ·exact len1 _ _ _ hl
 rw [asL,key _ _ (by simp)]
 simp [hp]
def refR (w:Nw) (r:Nat→Nat→Int) (p:Nat):Int:=if (outT w p).2=true then (outT w p).1 else r (frP w.t p).toNat p
theorem q7r {w:Nw} {r:Nat→Nat→Int} (h:okT w.t=true) (hbl:(w.bs.length:Int)=w.t.nodes):asL w r=(List.range (2*w.t.links.length)).map (refR w r):=by
 have hl:=(show (asL w r).length=2*w.t.links.length from by
  have h:∀ (l:List Nat) (s:List Int × Nat),asI w s→asI w (l.foldl (stS w.t (asN w r)) s):=by
   intro l
   induction l with
   | nil=>intro s h; exact h
   | cons n l ih =>
    intro s h
    refine ih _ ?_
    unfold stS
    split
    ·exact h
    ·exact q6V h
  exact (h _ _ ⟨by simp,Nat.zero_le _⟩).1)
 refine List.ext_getElem? (fun p=>?_)
 by_cases hp:p < 2*w.t.links.length
 ·rw [List.getElem?_map,List.getElem?_range hp,Option.map_some]
  obtain ⟨n1,n2⟩:=q0D h hp
  have hf:frP w.t p=((frP w.t p).toNat:Nat):=by omega
  unfold refR outT
  cases hs:stA w.t (frP w.t p).toNat with
  | true=>rw [qi4 hp hf hs]; simp
  | false =>
   rw [qi1 hp hf (by omega) hs,asV]
   cases dnA w (p / 2) <;> cases stA w.t (toP w.t p).toNat <;> simp
 ·rw [List.getElem?_eq_none (by omega),List.getElem?_eq_none (by simp; omega)]
theorem qi5 (f:Fl) (w:Nw) (hO:NwOk w) (hz:∀ x∈w.bs,x.z=false):ans Tryz.prog pol 20 [nwT f w]=some (.sl false 1 (((List.range (2*w.t.links.length)).map (refR w (roleW w))).map I)):=by
 obtain ⟨z1,z2,z3⟩:=q02 hO.t
 have hbl:=hO.bl
 have v0:IntKind.i64.wrap (2*(w.t.links.length:Nat))=((2*w.t.links.length:Nat):Int):=by rw [q09 (by omega) (by omega)]; omega
 obtain ⟨nn,hn⟩:∃ nn,1000 < nn:=⟨1001,by omega⟩
 refine q00 nn 1 il20_eq (Nat.le_of_ble_eq_true rfl) ?_
 (repeat' first|simp only [il20c,go_sem]|with_reducible refine wX fun _=>?_|((with_reducible refine wY ?_ ?_); rfl)|fail)
 refine q0r (2*w.t.links.length) (step:=fun p (o:List Int)=>.go (o++[refR w (roleW w) p])) (fin:=id)
  (St:=fun p o e h=>(e 1=.t (.ip (nwC f w))∧e 3=.ms 0 o.length 0 o.length 1 false∧e 4=.t (I (p:Nat)))∧o.length=p∧h=[rowG 1 I o])
  (Ex:=fun o x e h=>e 3=.ms 0 o.length 0 o.length 1 false∧x=.exit 0∧h=[rowG 1 I o]) (s:=[]) (by omega) ?_ ?_ (by omega) ?_ ?_
 ·intro p o e h Y R hp hlt hw ⟨hs,ho,hh⟩ hk
  subst hh
  simp only [q01] at hk
  have kO:=q7q f w hO.t hO.dl p hp
  have hroom:(o.length+1)*8≤roomB:=q08 (by omega) (by omega)
  have is1:rowIs 1 o.length (some (rowG 1 I o)):=q0g
  unfold refR at hk
  cases hb:(outT w p).2 with
  | true =>
   rw [hb] at kO hk
   rw [if_pos rfl] at hk
   generalize (outT w p).1=R0 at *
   (repeat' first|simp only [il20l0_go,il20l0b,go_sem,hs,hlt,hw,v0,kO,hroom,is1,q0d,q0e,q0z,q0n]|with_reducible refine wX fun _=>?_|((with_reducible refine wY ?_ ?_); rfl)|fail)
   all_goals (refine hk _ _ ⟨?_,by simp [ho],?_⟩ <;> simp only [go_sem,hs,hw,List.length_append])
  | false =>
   rw [hb] at kO hk
   rw [if_neg (by simp)] at hk
   have kF:=q1i f.st f.lk w.t p hp (by omega)
   obtain ⟨n1,n2⟩:=q0D hO.t hp
   have hst:stA w.t (frP w.t p).toNat=false:=by
    unfold outT at hb
    split at hb
    ·cases hb
    ·rename_i hc
     cases hq:stA w.t (frP w.t p).toNat with
     | false=>rfl
     | true=>exact absurd (.inr hq) hc
   have hto:stA w.t (toP w.t p).toNat=false:=by
    unfold outT at hb
    split at hb
    ·cases hb
    ·exact hb
   have hpt:p∈trunkL w.t (frP w.t p):=by
    simp only [trunkL,portsL,List.mem_filter,List.mem_range,decide_eq_true_eq]
    exact ⟨⟨hp,trivial⟩,by rw [innP,hto]; rfl⟩
   obtain ⟨n,hn'⟩:∃ n:Nat,frP w.t p=(n:Nat):=⟨(frP w.t p).toNat,by omega⟩
   rw [hn'] at kF hst hpt n1 n2 hk
   rw [Int.toNat_natCast] at hst hk
   have hnb:n < w.bs.length:=by omega
   obtain ⟨x,hx⟩:∃ x,w.bs[n]? = some x:=⟨w.bs[n]'hnb,by simp [hnb]⟩
   have hbx:bxA w n=x:=by simp [bxA,hx]
   obtain ⟨xz,xv⟩:=hO.vb.2 n x hx hst
   obtain ⟨j,h1,h2,h3⟩:=q3C (v:=ofN p) (i:=0) (List.mem_map_of_mem (f:=ofN) hpt)
   simp only [List.length_map] at h1
   have hrw:roleW w n p=roleF x.b (opF x.b).t j:=by
    rw [roleW,h3,hbx]
    congr 1
    omega
   rw [hrw] at hk
   have gb:(w.bs.map encX)[n]? = some (encX x):=by simp [hx]
   have hj:j < x.b.ports.length:=by rw [xv.ports]; simpa using h1
   have htl:=q1k hO.t (n:Nat)
   obtain ⟨z,c1,c2,c3,b⟩:=x
   dsimp only at xz xv hj hk
   subst xz
   have k1:=qfX c1 b.ports (ofN p) (by rw [xv.ports]; simp; omega)
   have hidx:idxL (ofN p) 0 b.ports=((j:Nat):Int):=by rw [xv.ports,h3]; congr 1; omega
   rw [hidx] at k1
   have k2:=qi3 c1 c2 c3 b xv.ok j hj
   have ex:encX ⟨false,c1,c2,c3,b⟩=brT c1 c2 c3 b:=rfl
   rw [ex] at gb
   generalize roleF b (opF b).t j=R0 at *
   generalize (outT w p).1=R1 at *
   have hn0:(0:Int)≤(n:Nat):=by omega
   simp only [ofN] at k1
   (repeat' first|simp only [il20l0_go,il20l0b,go_sem,hs,hlt,hw,v0,kO,kF,gb,k1,k2,hroom,is1,q0d,q0e,q0z,q0n]|with_reducible refine wX fun _=>?_|((with_reducible refine wY ?_ ?_); rfl)|fail)
   all_goals (refine hk _ _ ⟨?_,by simp [ho],?_⟩ <;> simp only [go_sem,hs,hw,List.length_append])
 ·intro o e h Y R hlt ⟨hs,ho,hh⟩ hk
  subst hh
  (repeat' first|simp only [il20l0_go,il20l0b,go_sem,hs,hlt,v0]|with_reducible refine wX fun _=>?_|((with_reducible refine wY ?_ ?_); rfl)|fail)
  all_goals (refine hk _ _ _ ⟨?_,rfl,rfl⟩; simp only [go_sem,hs,id])
 ·refine ⟨?_,rfl,rfl⟩
  simp only [go_sem]
 ·intro x e h ⟨h1,h2,h3⟩
  have hf:∀ (k i:Nat) (o:List Int),foldC (ρ:=List Int) (fun p (_:Unit) o=>Ctl.go (o++[refR w (roleW w) p])) id i (List.replicate k ()) o=o++(List.range' i k).map (refR w (roleW w)):=by
   intro k
   induction k with
   | zero=>intro i o; simp [foldC]
   | succ k ih=>intro i o; rw [List.replicate_succ,q07 (s':=o++[refR w (roleW w) i]) rfl,ih,List.range'_succ]; simp
  rw [hf,List.nil_append,← List.range_eq_range'] at h1 h3
  generalize (List.range (2*w.t.links.length)).map (refR w (roleW w))=L at *
  subst h2 h3
  have is1:rowIs 1 L.length (some (rowG 1 I L)):=q0g
  (repeat' first|simp only [il20c,go_sem,h1,is1,q0d,q0e]|with_reducible refine wX fun _=>?_|((with_reducible refine wY ?_ ?_); rfl)|fail)
end Go.Proofs.YtbibdnlbpjnieaaGreat
