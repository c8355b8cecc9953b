/- Part 26 of the proof of TreeSteps. -/
import Derived.Test.YtbibdnlbpjnieaaGreatS25
set_option linter.all false
set_option maxRecDepth 100000
set_option maxHeartbeats 4000000
namespace Go.Proofs.YtbibdnlbpjnieaaGreat
open Go Go.Abs
theorem qiF (c1 c2 c3:Bool) (b:Br):ans Tryz.prog pol 46 [brT c1 c2 c3 b]=some (B (okB b)):=by
 refine q00 100 1 il46_eq (Nat.le_of_ble_eq_true rfl) ?_
 have k0:=q5T b.p b.n
 by_cases qo:bidP b.p b.n
 rotate_left
 ·have hno:okB b=false:=by rw [okB,decide_eq_false qo,Bool.and_false,Bool.false_and]
  rw [hno]
  rw [decide_eq_false qo] at k0
  (have hc:=hc0; repeat' first|simp only [hc,il46c,go_sem,k0]|((with_reducible first|refine wG (fun hc=>?_) fun hc=>?_|refine wC (fun hc=>?_) fun hc=>?_) <;> try simp only [bq1,bq2] at hc)|with_reducible refine wX fun _=>?_|((with_reducible refine wY ?_ ?_); rfl)|fail)
 rw [decide_eq_true qo] at k0
 by_cases q:okL b
 rotate_left
 ·have hno:okB b=false:=by rw [okB,decide_eq_false q,Bool.false_and,Bool.false_and]
  rw [hno]
  simp only [okL] at q
  (have hc:=hc0; repeat' first|simp only [hc,il46c,go_sem,k0]|((with_reducible first|refine wG (fun hc=>?_) fun hc=>?_|refine wC (fun hc=>?_) fun hc=>?_) <;> try simp only [bq1,bq2] at hc)|with_reducible refine wX fun _=>?_|((with_reducible refine wY ?_ ?_); rfl)|fail)
  all_goals (exfalso; simp only [decide_eq_true_eq,decide_eq_false_iff_not] at *; omega)
 have hq:=q
 obtain ⟨q1,q2,q3⟩:=q
 have d1:decide ((24:Int) < (b.ports.length:Nat))=false:=decide_eq_false (by omega)
 have d2:decide (((b.costs.length:Nat):Int)=(b.ports.length:Nat))=true:=decide_eq_true (by omega)
 have d3:decide (((b.heard.length:Nat):Int)=(b.ports.length:Nat))=true:=decide_eq_true (by omega)
 have hob:okB b=(List.range b.ports.length).all (okAt b):=by rw [okB,decide_eq_true hq,decide_eq_true qo,Bool.true_and,Bool.true_and]
 rw [hob]
 (have hc:=hc0; repeat' first|simp only [hc,il46c,go_sem,d1,d2,d3,k0]|((with_reducible first|refine wG (fun hc=>?_) fun hc=>?_|refine wC (fun hc=>?_) fun hc=>?_) <;> try simp only [bq1,bq2] at hc)|with_reducible refine wX fun _=>?_|((with_reducible refine wY ?_ ?_); rfl)|fail)
 refine q04 b.ports I (step:=fun i _ (_:Unit)=>if okAt b i then Ctl.go () else Ctl.out false) (fin:=fun _=>true)
  (St:=fun i _ e h=>(e 1=.t (.ip (brC c1 c2 c3 b))∧e 3=.t (I (b.ports.length:Nat))∧e 4=.t (I (i:Nat)))∧h=[])
  (Ex:=fun r x e h=>r=true∧x=.exit 0∨r=false∧x=.ret∧e 2=.t (B false)) (s:=()) (by omega) ?_ ?_ (by omega) ?_ ?_
 ·intro i p _ e h Y R hm hi hx hget hlt hw ⟨hs,hh⟩ hk
  subst hh
  have hp:prt b i=p:=by simp [prt,hx]
  have hcs:(b.costs.map I)[i]? = some (I (cst b i)):=by simp [cst,show i < b.costs.length by omega]
  have hH:(b.heard.map encH)[i]? = some (encH (hrd b i)):=by simp [hrd,show i < b.heard.length by omega]
  have k1:=qfG (hrd b i)
  have hz:=q1r (hrd b i)
  have hpr:(b.ports.map I)[i - 1]? = some (I (prt b (i - 1))):=by simp [prt,show i - 1 < b.ports.length by omega]
  have v1:0 < i→IntKind.i64.wrap ((i:Int) - 1)=((i - 1:Nat):Int):=fun h0=>by rw [q09 (by omega) (by omega)]; omega
  have hok:okAt b i=decide ((0≤p∧p < 48)∧(0 < i→prt b (i - 1) < p)∧(1≤cst b i∧cst b i≤1000)∧okH (hrd b i)):=by simp only [okAt,hp]
  rw [hok] at hk
  clear hok
  generalize hrd b i=H at *
  generalize cst b i=C at *
  generalize prt b (i - 1)=P0 at *
  by_cases g1:0≤p∧p < 48
  rotate_left
  ·rw [if_neg (by rw [decide_eq_true_eq]; exact fun h=>g1 h.1),q05] at hk
   (have hc:=hc0; repeat' first|simp only [hc,il46l0_go,il46l0b,go_sem,hs,hget,hlt,hw,hH,q02]|((with_reducible first|refine wG (fun hc=>?_) fun hc=>?_|refine wC (fun hc=>?_) fun hc=>?_) <;> try simp only [bq1,bq2] at hc)|with_reducible refine wX fun _=>?_|((with_reducible refine wY ?_ ?_); rfl)|fail)
   all_goals first
    | (refine hk _ _ _ (.inr ?_); simp only [go_sem]; done)
    | (exfalso; simp only [decide_eq_true_eq,decide_eq_false_iff_not] at *; omega)
  have e1:decide (p < 0)=false:=decide_eq_false (by omega)
  have e2:decide ((47:Int) < p)=false:=decide_eq_false (by omega)
  -- the rest,once the order of ports is known
  have rest:∀ (b0 b1:Bool) (hb0:decide ((0:Int) < (i:Int))=b0) (v1:b0=true→IntKind.i64.wrap ((i:Int) - 1)=((i - 1:Nat):Int)) (hb1:b0=true→decide (p≤P0)=b1),(b0 && b1)=false→((0 < i→P0 < p)) →
    wc Tryz.prog pol (ans Tryz.prog pol) (inl Tryz.prog pol (ans Tryz.prog pol) 100 1) 100 46 il46l0 (itK 0 Y R) (tidyF (some [1,3,4]) e) []:=by
   intro b0 b1 hb0 v1 hb1 hbb g2
   by_cases g3:1≤C∧C≤1000
   rotate_left
   ·rw [if_neg (by rw [decide_eq_true_eq]; exact fun h=>g3 h.2.2.1),q05] at hk
    cases b0 with
    | false =>
     (have hc:=hc0; repeat' first|simp only [hc,il46l0_go,il46l0b,go_sem,hs,hget,hlt,hw,hH,q02,e1,e2,hb0,hcs]|((with_reducible first|refine wG (fun hc=>?_) fun hc=>?_|refine wC (fun hc=>?_) fun hc=>?_) <;> try simp only [bq1,bq2] at hc)|with_reducible refine wX fun _=>?_|((with_reducible refine wY ?_ ?_); rfl)|fail)
     all_goals first
      | (refine hk _ _ _ (.inr ?_); simp only [go_sem]; done)
      | (exfalso; simp only [decide_eq_true_eq,decide_eq_false_iff_not] at *; omega)
    | true =>
     have v1':=v1 rfl
     have hb1':=hb1 rfl
     simp only [Bool.true_and] at hbb
     subst hbb
     (have hc:=hc0; repeat' first|simp only [hc,il46l0_go,il46l0b,go_sem,hs,hget,hlt,hw,hH,q02,e1,e2,hb0,v1',hb1',hpr,hcs]|((with_reducible first|refine wG (fun hc=>?_) fun hc=>?_|refine wC (fun hc=>?_) fun hc=>?_) <;> try simp only [bq1,bq2] at hc)|with_reducible refine wX fun _=>?_|((with_reducible refine wY ?_ ?_); rfl)|fail)
     all_goals first
      | (refine hk _ _ _ (.inr ?_); simp only [go_sem]; done)
      | (exfalso; simp only [decide_eq_true_eq,decide_eq_false_iff_not] at *; omega)
   have e3:decide (C < 1)=false:=decide_eq_false (by omega)
   have e4:decide ((1000:Int) < C)=false:=decide_eq_false (by omega)
   obtain ⟨hi0,h1,h2,h3,h4,h5,h6,h7⟩:=H
   -- the last check
   have last:∀ (K:Prop),(∀ (r:Bool),(r=true↔okH ⟨hi0,h1,h2,h3,h4,h5,h6,h7⟩)→ctlK (fun _ e h=>(e 1=.t (.ip (brC c1 c2 c3 b))∧e 3=.t (I (b.ports.length:Nat))∧e 4=.t (I ((i+1:Nat):Int)))∧h=[]) (fun r x e h=>r=true∧x=.exit 0∨r=false∧x=.ret∧e 2=.t (B false)) Y R (if r=true then Ctl.go () else Ctl.out false)→K)→K:=by
    intro K hK
    refine hK (decide (okH ⟨hi0,h1,h2,h3,h4,h5,h6,h7⟩)) (by rw [decide_eq_true_eq]) ?_
    by_cases g4:okH ⟨hi0,h1,h2,h3,h4,h5,h6,h7⟩
    ·rw [if_pos (decide_eq_true g4)]
     rw [if_pos (by rw [decide_eq_true_eq]; exact ⟨g1,g2,g3,g4⟩)] at hk
     exact hk
    ·rw [if_neg (by simp [g4])]
     rw [if_neg (by rw [decide_eq_true_eq]; exact fun h=>g4 h.2.2.2)] at hk
     exact hk
   clear hk
   refine last _ ?_
   intro r hr hk
   have fin:∀ (x:Bool),(x=true↔okH ⟨hi0,h1,h2,h3,h4,h5,h6,h7⟩)→r=x:=by
    intro x hx
    exact Bool.eq_iff_iff.2 (hr.trans hx.symm)
   have kz:(h1=0∧h2=0∧h3=0∧h4=0∧h5=0∧h6=0∧h7=0)∨¬ (h1=0∧h2=0∧h3=0∧h4=0∧h5=0∧h6=0∧h7=0):=Decidable.em _
   -- with the result known
   cases hi0 with
   | true =>
    by_cases g5:helloP ⟨true,h1,h2,h3,h4,h5,h6,h7⟩
    ·rw [decide_eq_true g5] at k1
     obtain rfl:=fin true ⟨fun _=>⟨fun _=>g5,fun h=>absurd h (by simp)⟩,fun _=>rfl⟩
     rw [if_pos rfl,q01] at hk
     cases b0 with
     | false =>
      (have hc:=hc0; repeat' first|simp only [hc,il46l0_go,il46l0b,go_sem,hs,hget,hlt,hw,e1,e2,hb0,hcs,e3,e4,hH,q02,k1]|((with_reducible first|refine wG (fun hc=>?_) fun hc=>?_|refine wC (fun hc=>?_) fun hc=>?_) <;> try simp only [bq1,bq2] at hc)|with_reducible refine wX fun _=>?_|((with_reducible refine wY ?_ ?_); rfl)|fail)
      all_goals (refine hk _ _ ?_; simp only [go_sem,hs,hw])
     | true =>
      have v1':=v1 rfl
      have hb1':=hb1 rfl
      simp only [Bool.true_and] at hbb
      subst hbb
      (have hc:=hc0; repeat' first|simp only [hc,il46l0_go,il46l0b,go_sem,hs,hget,hlt,hw,e1,e2,hb0,v1',hb1',hpr,hcs,e3,e4,hH,q02,k1]|((with_reducible first|refine wG (fun hc=>?_) fun hc=>?_|refine wC (fun hc=>?_) fun hc=>?_) <;> try simp only [bq1,bq2] at hc)|with_reducible refine wX fun _=>?_|((with_reducible refine wY ?_ ?_); rfl)|fail)
      all_goals (refine hk _ _ ?_; simp only [go_sem,hs,hw])
    ·rw [decide_eq_false g5] at k1
     obtain rfl:=fin false ⟨fun h=>absurd h (by simp),fun h=>absurd (h.1 rfl) g5⟩
     rw [if_neg (by simp),q05] at hk
     cases b0 with
     | false =>
      (have hc:=hc0; repeat' first|simp only [hc,il46l0_go,il46l0b,go_sem,hs,hget,hlt,hw,e1,e2,hb0,hcs,e3,e4,hH,q02,k1]|((with_reducible first|refine wG (fun hc=>?_) fun hc=>?_|refine wC (fun hc=>?_) fun hc=>?_) <;> try simp only [bq1,bq2] at hc)|with_reducible refine wX fun _=>?_|((with_reducible refine wY ?_ ?_); rfl)|fail)
      all_goals (refine hk _ _ _ (.inr ?_); simp only [go_sem])
     | true =>
      have v1':=v1 rfl
      have hb1':=hb1 rfl
      simp only [Bool.true_and] at hbb
      subst hbb
      (have hc:=hc0; repeat' first|simp only [hc,il46l0_go,il46l0b,go_sem,hs,hget,hlt,hw,e1,e2,hb0,v1',hb1',hpr,hcs,e3,e4,hH,q02,k1]|((with_reducible first|refine wG (fun hc=>?_) fun hc=>?_|refine wC (fun hc=>?_) fun hc=>?_) <;> try simp only [bq1,bq2] at hc)|with_reducible refine wX fun _=>?_|((with_reducible refine wY ?_ ?_); rfl)|fail)
      all_goals (refine hk _ _ _ (.inr ?_); simp only [go_sem])
   | false =>
    have hz':okH ⟨false,h1,h2,h3,h4,h5,h6,h7⟩↔(h1=0∧h2=0∧h3=0∧h4=0∧h5=0∧h6=0∧h7=0):=by
     constructor
     ·intro h
      have:=(q1r _).1 (h.2 rfl)
      exact this.2
     ·intro h
      exact ⟨fun h=>absurd h (by simp),fun _=>(q1r _).2 ⟨rfl,h⟩⟩
    rcases kz with kz|kz
    ·obtain rfl:=fin true ⟨fun _=>hz'.2 kz,fun _=>rfl⟩
     rw [if_pos rfl,q01] at hk
     obtain ⟨rfl,rfl,rfl,rfl,rfl,rfl,rfl⟩:=kz
     cases b0 with
     | false =>
      (have hc:=hc0; repeat' first|simp only [hc,il46l0_go,il46l0b,go_sem,hs,hget,hlt,hw,e1,e2,hb0,hcs,e3,e4,hH,q02]|((with_reducible first|refine wG (fun hc=>?_) fun hc=>?_|refine wC (fun hc=>?_) fun hc=>?_) <;> try simp only [bq1,bq2] at hc)|with_reducible refine wX fun _=>?_|((with_reducible refine wY ?_ ?_); rfl)|fail)
      all_goals (refine hk _ _ ?_; simp only [go_sem,hs,hw])
     | true =>
      have v1':=v1 rfl
      have hb1':=hb1 rfl
      simp only [Bool.true_and] at hbb
      subst hbb
      (have hc:=hc0; repeat' first|simp only [hc,il46l0_go,il46l0b,go_sem,hs,hget,hlt,hw,e1,e2,hb0,v1',hb1',hpr,hcs,e3,e4,hH,q02]|((with_reducible first|refine wG (fun hc=>?_) fun hc=>?_|refine wC (fun hc=>?_) fun hc=>?_) <;> try simp only [bq1,bq2] at hc)|with_reducible refine wX fun _=>?_|((with_reducible refine wY ?_ ?_); rfl)|fail)
      all_goals (refine hk _ _ ?_; simp only [go_sem,hs,hw])
    ·obtain rfl:=fin false ⟨fun h=>absurd h (by simp),fun h=>absurd (hz'.1 h) kz⟩
     rw [if_neg (by simp),q05] at hk
     have kd:decide (h1=0∧h2=0∧h3=0∧h4=0∧h5=0∧h6=0∧h7=0)=false:=decide_eq_false kz
     cases b0 with
     | false =>
      (have hc:=hc0; repeat' first|simp only [hc,il46l0_go,il46l0b,go_sem,hs,hget,hlt,hw,e1,e2,hb0,hcs,e3,e4,hH,q02,kd]|((with_reducible first|refine wG (fun hc=>?_) fun hc=>?_|refine wC (fun hc=>?_) fun hc=>?_) <;> try simp only [bq1,bq2] at hc)|with_reducible refine wX fun _=>?_|((with_reducible refine wY ?_ ?_); rfl)|fail)
      all_goals (refine hk _ _ _ (.inr ?_); simp only [go_sem])
     | true =>
      have v1':=v1 rfl
      have hb1':=hb1 rfl
      simp only [Bool.true_and] at hbb
      subst hbb
      (have hc:=hc0; repeat' first|simp only [hc,il46l0_go,il46l0b,go_sem,hs,hget,hlt,hw,e1,e2,hb0,v1',hb1',hpr,hcs,e3,e4,hH,q02,kd]|((with_reducible first|refine wG (fun hc=>?_) fun hc=>?_|refine wC (fun hc=>?_) fun hc=>?_) <;> try simp only [bq1,bq2] at hc)|with_reducible refine wX fun _=>?_|((with_reducible refine wY ?_ ?_); rfl)|fail)
      all_goals (refine hk _ _ _ (.inr ?_); simp only [go_sem])
  by_cases i0:0 < i
  ·by_cases g2:P0 < p
   ·exact rest true false (decide_eq_true (by omega)) (fun _=>v1 i0) (fun _=>decide_eq_false (by omega)) rfl (fun _=>g2)
   ·rw [if_neg (by rw [decide_eq_true_eq]; exact fun h=>g2 (h.2.1 i0)),q05] at hk
    have f1:decide ((0:Int) < (i:Int))=true:=decide_eq_true (by omega)
    have f2:decide (p≤P0)=true:=decide_eq_true (by omega)
    have v1':=v1 i0
    (have hc:=hc0; repeat' first|simp only [hc,il46l0_go,il46l0b,go_sem,hs,hget,hlt,hw,hH,q02,e1,e2,f1,f2,v1',hpr]|((with_reducible first|refine wG (fun hc=>?_) fun hc=>?_|refine wC (fun hc=>?_) fun hc=>?_) <;> try simp only [bq1,bq2] at hc)|with_reducible refine wX fun _=>?_|((with_reducible refine wY ?_ ?_); rfl)|fail)
    all_goals (refine hk _ _ _ (.inr ?_); simp only [go_sem])
  ·exact rest false false (decide_eq_false (by omega)) (fun h=>absurd h (by simp)) (fun h=>absurd h (by simp)) rfl (fun h=>absurd h i0)
 ·intro _ e h Y R hlt ⟨hs,hh⟩ hk
  subst hh
  (have hc:=hc0; repeat' first|simp only [hc,il46l0_go,il46l0b,go_sem,hs,hlt]|((with_reducible first|refine wG (fun hc=>?_) fun hc=>?_|refine wC (fun hc=>?_) fun hc=>?_) <;> try simp only [bq1,bq2] at hc)|with_reducible refine wX fun _=>?_|((with_reducible refine wY ?_ ?_); rfl)|fail)
  all_goals (refine hk _ _ _ (.inl ?_); simp only [go_sem])
 ·simp only [go_sem]
 ·intro x e h hx
  rw [q19] at hx
  rw [List.range_eq_range']
  rcases hx with ⟨hb,rfl⟩|⟨hb,rfl,e2⟩
  ·(have hc:=hc0; repeat' first|simp only [hc,il46c,go_sem,hb]|((with_reducible first|refine wG (fun hc=>?_) fun hc=>?_|refine wC (fun hc=>?_) fun hc=>?_) <;> try simp only [bq1,bq2] at hc)|with_reducible refine wX fun _=>?_|((with_reducible refine wY ?_ ?_); rfl)|fail)
  ·(have hc:=hc0; repeat' first|simp only [hc,il46c,go_sem,e2,hb]|((with_reducible first|refine wG (fun hc=>?_) fun hc=>?_|refine wC (fun hc=>?_) fun hc=>?_) <;> try simp only [bq1,bq2] at hc)|with_reducible refine wX fun _=>?_|((with_reducible refine wY ?_ ?_); rfl)|fail)
end Go.Proofs.YtbibdnlbpjnieaaGreat
namespace Go.Proofs.YtbibdnlbpjnieaaGreat
open Go Go.Abs
theorem qiG (f:Fl) (w:Nw) (hd:w.down.length=w.t.links.length) (hL:w.t.links.length≤1000) (n:Nat) (c1 c2 c3:Bool) (b:Br) (pr:Int) (P:List Nat) (F2 F3:T) (hP:∀ p∈P,p < 2*w.t.links.length) (hPl:P.length≤900) (hb:b.heard.length=P.length)
  (J:Inl) (nn:Nat) (hn:1000 < nn) (R:Xit→FEnv→Heap→Prop) (e:FEnv)
  (he:e 1=.t (.ip (nwC f w))∧e 3=.t (I (n:Nat))∧e 4=.ref 0 1 0 0∧e 5=.ref 1 1 0 0∧e 6=.t (I 0))
  (hR1:quietB w P b=true→∀ e,(e 1=.t (.ip (nwC f w))∧e 3=.t (I (n:Nat))∧e 4=.ref 0 1 0 0∧e 5=.ref 1 1 0 0)→R (.exit 2) e [.row 5 [.t (brT c1 c2 c3 b)] 1,.row 5 [.t (.agg [I pr,I (n:Nat),.sl false 1 ((P.map ofN).map I),F2,F3])] 1])
  (hR2:quietB w P b=false→∀ e hh,e 2=.t (B false)→R .ret e hh) :
  wpIter 2 (some [1,3,4,5,6]) (wc Tryz.prog pol (ans Tryz.prog pol) J nn 18 il18l0) R nn e [.row 5 [.t (brT c1 c2 c3 b)] 1,.row 5 [.t (.agg [I pr,I (n:Nat),.sl false 1 ((P.map ofN).map I),F2,F3])] 1]:=by
 refine q04 P (fun p=>I (ofN p)) (step:=fun i _ (_:Unit)=>if (!(dnA w (P[i]?.getD 0 / 2) && (hrd b i).is))=true then Ctl.go () else Ctl.out false) (fin:=fun _=>true)
  (St:=fun i _ e h=>(e 1=.t (.ip (nwC f w))∧e 3=.t (I (n:Nat))∧e 4=.ref 0 1 0 0∧e 5=.ref 1 1 0 0∧e 6=.t (I (i:Nat)))∧h=[.row 5 [.t (brT c1 c2 c3 b)] 1,.row 5 [.t (.agg [I pr,I (n:Nat),.sl false 1 ((P.map ofN).map I),F2,F3])] 1])
  (Ex:=fun r x e h=>r=true∧x=.exit 2∧(e 1=.t (.ip (nwC f w))∧e 3=.t (I (n:Nat))∧e 4=.ref 0 1 0 0∧e 5=.ref 1 1 0 0)∧h=[.row 5 [.t (brT c1 c2 c3 b)] 1,.row 5 [.t (.agg [I pr,I (n:Nat),.sl false 1 ((P.map ofN).map I),F2,F3])] 1]∨r=false∧x=.ret∧e 2=.t (B false)) (s:=()) (by omega) ?_ ?_ (by omega) ⟨he,rfl⟩ ?_
 ·intro i p _ e h Y R' hm hi hx hget hlt hw ⟨hs,hh⟩ hk
  subst hh
  have hp:=hP p hm
  have hPx:P[i]?.getD 0=p:=by rw [hx]; rfl
  rw [hPx] at hk
  have gp:((P.map ofN).map I)[i]? = some (I (p:Nat)):=by simp [hx,ofN]
  have hPL:((P.map ofN).map I).length=P.length:=by simp
  have gd:(w.down.map B)[p / 2]? = some (B (dnA w (p / 2))):=by simp [dnA,show p / 2 < w.down.length by omega]
  have gh:(b.heard.map encH)[i]? = some (encH (hrd b i)):=by simp [hrd,show i < b.heard.length by omega]
  have v:=q1T hp hL
  generalize hrd b i=H at *
  cases hdn:dnA w (p / 2) with
  | false =>
   rw [hdn] at gd hk
   rw [if_pos (by simp),q01] at hk
   (repeat' first|simp only [il18l0_go,il18l0b,go_sem,hs,gp,hPL,gd,v,hlt,hw,List.length_map]|with_reducible refine wX fun _=>?_|((with_reducible refine wY ?_ ?_); rfl)|fail)
   all_goals (refine hk _ _ ⟨?_,rfl⟩; simp only [go_sem,hs,hw])
  | true =>
   rw [hdn] at gd hk
   cases hH:H.is with
   | false =>
    rw [hH] at hk
    rw [if_pos (by simp),q01] at hk
    (repeat' first|simp only [il18l0_go,il18l0b,go_sem,hs,gp,hPL,gd,gh,q02,hH,v,hlt,hw,List.length_map]|with_reducible refine wX fun _=>?_|((with_reducible refine wY ?_ ?_); rfl)|fail)
    all_goals (refine hk _ _ ⟨?_,rfl⟩; simp only [go_sem,hs,hw])
   | true =>
    rw [hH] at hk
    rw [if_neg (by simp),q05] at hk
    (repeat' first|simp only [il18l0_go,il18l0b,go_sem,hs,gp,hPL,gd,gh,q02,hH,v,hlt,List.length_map]|with_reducible refine wX fun _=>?_|((with_reducible refine wY ?_ ?_); rfl)|fail)
    all_goals (refine hk _ _ _ (.inr ⟨rfl,rfl,?_⟩); simp only [go_sem])
 ·intro _ e h Y R' hlt ⟨hs,hh⟩ hk
  subst hh
  (repeat' first|simp only [il18l0_go,il18l0b,go_sem,hs,hlt,List.length_map]|with_reducible refine wX fun _=>?_|((with_reducible refine wY ?_ ?_); rfl)|fail)
  all_goals (refine hk _ _ _ (.inl ⟨rfl,rfl,?_,rfl⟩); simp only [go_sem,hs])
 ·intro x e h hx
  rw [q19 (p:=fun i=>!(dnA w (P[i]?.getD 0 / 2) && (hrd b i).is)),← List.range_eq_range'] at hx
  rcases hx with ⟨h1,rfl,h2,rfl⟩|⟨h1,rfl,h2⟩
  ·exact hR1 h1 _ h2
  ·exact hR2 h1 _ _ h2
theorem qiH (f:Fl) (w:Nw) (hz:∀ x∈w.bs,x.z=false) (h1:w.prios.length≤900) (h2:w.bs.length≤900) (h3:∀ x∈w.bs,x.b.ports.length≤900∧x.b.costs.length≤900):ans Tryz.prog pol 18 [nwT f w]=some (B (okN w)):=by
 have k1:=qhi f.st f.lk w.t
 have k2:=qhp f.pr f.st f.lk w.t w.prios h1
 cases q1:okT w.t with
 | false =>
  rw [q1] at k1
  rw [show okN w=false by simp [okN,q1]]
  refine q00 1 1 il18_eq (Nat.le_of_ble_eq_true rfl) ?_
  (repeat' first|simp only [il18c,go_sem,k1]|with_reducible refine wX fun _=>?_|((with_reducible refine wY ?_ ?_); rfl)|fail)
 | true =>
 rw [q1] at k1
 obtain ⟨z1,z2,z3⟩:=q06 q1
 cases q2:rankL w.t w.prios with
 | false =>
  rw [q2] at k2
  rw [show okN w=false by simp [okN,q1,q2]]
  refine q00 1 1 il18_eq (Nat.le_of_ble_eq_true rfl) ?_
  (repeat' first|simp only [il18c,go_sem,k1,k2]|with_reducible refine wX fun _=>?_|((with_reducible refine wY ?_ ?_); rfl)|fail)
 | true =>
 rw [q2] at k2
 by_cases q4:w.down.length=w.t.links.length
 rotate_left
 ·have d4:decide ((w.down.length:Int)=(w.t.links.length:Nat))=false:=decide_eq_false (by omega)
  rw [show okN w=false by simp [okN,q1,q2,q4]]
  refine q00 1 1 il18_eq (Nat.le_of_ble_eq_true rfl) ?_
  (repeat' first|simp only [il18c,go_sem,k1,k2,d4]|with_reducible refine wX fun _=>?_|((with_reducible refine wY ?_ ?_); rfl)|fail)
 have d4:decide ((w.down.length:Int)=(w.t.links.length:Nat))=true:=decide_eq_true (by omega)
 by_cases q3:(w.bs.length:Int)=w.t.nodes
 rotate_left
 ·have d3:=decide_eq_false q3
  rw [show okN w=false by simp [okN,q1,q2,d3]]
  refine q00 1 1 il18_eq (Nat.le_of_ble_eq_true rfl) ?_
  (repeat' first|simp only [il18c,go_sem,k1,k2,d4,d3]|with_reducible refine wX fun _=>?_|((with_reducible refine wY ?_ ?_); rfl)|fail)
 have d3:=decide_eq_true q3
 have ho:okN w=(List.range w.bs.length).all (soundN w):=by rw [okN,q1,q2,d3,decide_eq_true q4]; simp only [Bool.true_and]
 rw [ho]
 generalize hN:w.bs.length=N at *
 have hpl:=q0A q2
 obtain ⟨nn,hn⟩:∃ nn,1000 < nn+1:=⟨1001,by omega⟩
 refine q00 (nn+1) 2 il18_eq (Nat.le_of_ble_eq_true rfl) ?_
 (repeat' first|simp only [il18c,go_sem,k1,k2,d4,d3,hN]|with_reducible refine wX fun _=>?_|((with_reducible refine wY ?_ ?_); rfl)|fail)
 refine q0D N (step:=fun n (_:Unit)=>if soundN w n=true then Ctl.go () else Ctl.out false) (fin:=fun _=>true)
  (St:=fun n _ e h=>(e 1=.t (.ip (nwC f w))∧e 3=.t (I (n:Nat)))∧h=[])
  (Ex:=fun r x e h=>(r=true∧x=.exit 0∧h=[])∨(r=false∧x=.ret∧e 2=.t (B false))) (s:=()) (by omega) ?_ ?_ (by omega) ?_ ?_
 ·intro n _ e h Y R hi hlt hw ⟨hs,hh⟩ hk
  subst hh
  rw [q3] at hlt
  have hnb:n < w.bs.length:=by omega
  have gb:(w.bs.map encX)[n]? = some (encX (bxA w n)):=by simp [bxA,hnb]
  have hm:bxA w n∈w.bs:=by rw [bxA,List.getElem?_eq_getElem hnb]; exact List.getElem_mem hnb
  have hxz:=hz _ hm
  obtain ⟨hx1,hx2⟩:=h3 _ hm
  have gs:(w.t.station.map B)[n]? = some (B (stA w.t n)):=by simp [stA,show n < w.t.station.length by omega]
  have kF:=qhY f w n q1 (by omega) (by omega)
  have kS:=qhZ f w n q1 (by omega) (by omega)
  have hsn:soundN w n=if stA w.t n=true then emptyB (bxA w n).b else okB (bxA w n).b && (decide ((bxA w n).b.p=prA w n∧(bxA w n).b.n=(n:Nat)) && (decide ((bxA w n).b.ports=(trunkL w.t n).map ofN) && (decide ((bxA w n).b.costs=costL w.t n) && quietB w (trunkL w.t n) (bxA w n).b))):=rfl
  have h24:=q0J q1 (n:Nat)
  have hplt:=fun p=>@q1c w.t (n:Nat) p
  have hcl:(costL w.t n).length=(trunkL w.t n).length:=by simp [costL]
  generalize bxA w n=x at *
  obtain ⟨z,c1,c2,c3,b⟩:=x
  dsimp only at hxz hx1 hx2 hsn
  subst hxz
  have ex:encX ⟨false,c1,c2,c3,b⟩=brT c1 c2 c3 b:=rfl
  rw [ex] at gb
  have kR:=qiF c1 c2 c3 b
  cases hst:stA w.t n with
  | true =>
   rw [hst] at gs
   have kS:=kS hst
   have ez:encX zBx=.agg [I 0,I 0,.sc (.slice none 0 0),.sc (.slice none 0 0),.sc (.slice none 0 0)]:=rfl
   rw [ez] at kS
   rw [hst,if_pos rfl] at hsn
   rw [hsn] at hk
   clear hsn
   by_cases hh0:b.heard.length=0
   ·have d0:decide ((b.heard.length:Int)=0)=true:=decide_eq_true (by omega)
    have kE:=q3D (p:=b.p) (n:=b.n) (p':=0) (n':=0) (a3:=[]) (b3:=[]) (q0m (c:=c1) (k:=1) (xs:=b.ports.map I)) (q0m (c:=c2) (k:=1) (xs:=b.costs.map I)) (q0t (k:=8)) (b1:=[]) (b2:=[]) (q0t (k:=1)) (q0t (k:=1)) (q0t (k:=8)) (by omega) (by omega) (by simp)
    have hem:emptyB b=decide ((b.p=0∧b.n=0)∧b.ports=[]∧b.costs=[]∧([]:List Hd)=[]):=by
     unfold emptyB
     refine decide_eq_decide.2 ⟨fun ⟨a1,a2,a3,a4⟩=>⟨a1,List.eq_nil_of_length_eq_zero a2,List.eq_nil_of_length_eq_zero a3,rfl⟩,fun ⟨a1,a2,a3,_⟩=>⟨a1,by rw [a2]; rfl,by rw [a3]; rfl,hh0⟩⟩
    rw [hem] at hk
    generalize decide ((b.p=0∧b.n=0)∧b.ports=[]∧b.costs=[]∧([]:List Hd)=[])=r at *
    cases r with
    | true =>
     rw [if_pos rfl,q01] at hk
     (repeat' first|simp only [il18l1_go,il18l1b,go_sem,hs,hlt,hw,gb,gs,kS,d0,kE]|with_reducible refine wX fun _=>?_|((with_reducible refine wY ?_ ?_); rfl)|((with_reducible refine q0x (body:=wc _ _ _ _ _ _ il18l0) ?_ ?_); exact Nat.le_of_ble_eq_true rfl; simp only [il18l0_go,il18l0b])|fail)
     all_goals (refine hk _ _ ⟨?_,rfl⟩; simp only [go_sem,hs,hw])
    | false =>
     rw [if_neg (by simp),q05] at hk
     (repeat' first|simp only [il18l1_go,il18l1b,go_sem,hs,hlt,hw,gb,gs,kS,d0,kE]|with_reducible refine wX fun _=>?_|((with_reducible refine wY ?_ ?_); rfl)|((with_reducible refine q0x (body:=wc _ _ _ _ _ _ il18l0) ?_ ?_); exact Nat.le_of_ble_eq_true rfl; simp only [il18l0_go,il18l0b])|fail)
     all_goals (refine hk _ _ _ (.inr ⟨rfl,rfl,?_⟩); simp only [go_sem])
   ·have d0:decide ((b.heard.length:Int)=0)=false:=decide_eq_false (by omega)
    rw [show emptyB b=false from decide_eq_false (fun k=>hh0 k.2.2.2),if_neg (by simp),q05] at hk
    (repeat' first|simp only [il18l1_go,il18l1b,go_sem,hs,hlt,hw,gb,gs,kS,d0]|with_reducible refine wX fun _=>?_|((with_reducible refine wY ?_ ?_); rfl)|fail)
    all_goals (refine hk _ _ _ (.inr ⟨rfl,rfl,?_⟩); simp only [go_sem])
  | false =>
   rw [hst] at gs
   have kF:=kF hst
   rw [hst,if_neg (by simp)] at hsn
   rw [hsn] at hk
   clear hsn
   have hrl:(List.replicate ((trunkL w.t n).map ofN).length zH).length=(trunkL w.t n).length:=by simp
   simp only [newB] at kF
   generalize hPP:trunkL w.t (n:Nat)=P at *
   generalize hCC:costL w.t (n:Nat)=C at *
   generalize hHH:List.replicate (P.map ofN).length zH=HH at *
   by_cases hh0:b.heard.length=P.length
   rotate_left
   ·have d0:decide ((b.heard.length:Int)=(P.length:Nat))=false:=decide_eq_false (by omega)
    have hno:(okB b && (decide (b.p=prA w n∧b.n=(n:Nat)) && (decide (b.ports=P.map ofN) && (decide (b.costs=C) && quietB w P b))))=false:=by
     by_cases hob:okB b=true
     ·by_cases hpo:b.ports=P.map ofN
      ·exfalso
       simp only [okB,Bool.and_eq_true,decide_eq_true_eq] at hob
       have:=hob.1.1.2.2
       rw [hpo,List.length_map] at this
       exact hh0 this
      ·rw [decide_eq_false hpo]; simp
     ·rw [show okB b=false by simpa using hob,Bool.false_and]
    rw [hno,if_neg (by simp),q05] at hk
    (repeat' first|simp only [il18l1_go,il18l1b,go_sem,hs,hlt,hw,gb,gs,kF,hrl,d0]|with_reducible refine wX fun _=>?_|((with_reducible refine wY ?_ ?_); rfl)|fail)
    all_goals (refine hk _ _ _ (.inr ⟨rfl,rfl,?_⟩); simp only [go_sem])
   ·have d0:decide ((b.heard.length:Int)=(P.length:Nat))=true:=decide_eq_true (by omega)
    cases hob:okB b with
    | false =>
     rw [hob] at kR hk
     rw [Bool.false_and,if_neg (by simp),q05] at hk
     (repeat' first|simp only [il18l1_go,il18l1b,go_sem,hs,hlt,hw,gb,gs,kF,hrl,d0,kR]|with_reducible refine wX fun _=>?_|((with_reducible refine wY ?_ ?_); rfl)|fail)
     all_goals (refine hk _ _ _ (.inr ⟨rfl,rfl,?_⟩); simp only [go_sem])
    | true =>
     rw [hob] at kR hk
     rw [Bool.true_and] at hk
     have kE:=q3D (p:=b.p) (n:=b.n) (p':=prA w n) (n':=(n:Nat)) (a3:=HH) (b3:=HH) (q0m (c:=c1) (k:=1) (xs:=b.ports.map I)) (q0m (c:=c2) (k:=1) (xs:=b.costs.map I)) (q0m (c:=true) (k:=8) (xs:=HH.map encH)) (b1:=P.map ofN) (b2:=C) (q0m (c:=false) (k:=1) (xs:=(P.map ofN).map I)) (q0m (c:=false) (k:=1) (xs:=C.map I)) (q0m (c:=true) (k:=8) (xs:=HH.map encH)) (by omega) (by omega) (by omega)
     have hem:decide ((b.p=prA w n∧b.n=(n:Nat))∧b.ports=P.map ofN∧b.costs=C∧HH=HH)=(decide (b.p=prA w n∧b.n=(n:Nat)) && (decide (b.ports=P.map ofN) && decide (b.costs=C))):=by
      rw [Bool.eq_iff_iff]; simp only [Bool.and_eq_true,decide_eq_true_eq]
      exact ⟨fun ⟨a1,a2,a3,_⟩=>⟨a1,a2,a3⟩,fun ⟨a1,a2,a3⟩=>⟨a1,a2,a3,by trivial⟩⟩
     rw [hem] at kE
     have hass:(decide (b.p=prA w n∧b.n=(n:Nat)) && (decide (b.ports=P.map ofN) && (decide (b.costs=C) && quietB w P b)))=(quietB w P b && (decide (b.p=prA w n∧b.n=(n:Nat)) && (decide (b.ports=P.map ofN) && decide (b.costs=C)))):=by
      cases quietB w P b <;> simp
     rw [hass] at hk
     generalize (decide (b.p=prA w n∧b.n=(n:Nat)) && (decide (b.ports=P.map ofN) && decide (b.costs=C)))=r at *
     generalize prA w n=pr at *
     clear hass hem
     (repeat' first|simp only [il18l1_go,il18l1b,go_sem,hs,hlt,hw,gb,gs,kF,hrl,d0,kR]|with_reducible refine wX fun _=>?_|((with_reducible refine wY ?_ ?_); rfl)|fail)
     refine qiG f w q4 (by omega) n c1 c2 c3 b pr P (.sl false 1 (C.map I)) (.sl true 8 (HH.map encH)) hplt (by omega) hh0 _ (nn+1) hn _ _ (by simp only [go_sem,hs]) ?_ ?_
     ·intro hq e1 he1
      rw [hq,Bool.true_and] at hk
      cases r with
      | true =>
       rw [if_pos rfl,q01] at hk
       (repeat' first|simp only [il18l1_go,il18l1b,go_sem,he1,hw,kE]|with_reducible refine wX fun _=>?_|((with_reducible refine wY ?_ ?_); rfl)|fail)
       all_goals (refine hk _ _ ⟨?_,rfl⟩; simp only [go_sem,he1,hw])
      | false =>
       rw [if_neg (by simp),q05] at hk
       (repeat' first|simp only [il18l1_go,il18l1b,go_sem,he1,hw,kE]|with_reducible refine wX fun _=>?_|((with_reducible refine wY ?_ ?_); rfl)|fail)
       all_goals (refine hk _ _ _ (.inr ⟨rfl,rfl,?_⟩); simp only [go_sem])
     ·intro hq e1 hh he1
      rw [hq,Bool.false_and,if_neg (by simp),q05] at hk
      (repeat' first|simp only [il18l1_go,il18l1b,go_sem,he1]|with_reducible refine wX fun _=>?_|((with_reducible refine wY ?_ ?_); rfl)|fail)
      all_goals (refine hk _ _ _ (.inr ⟨rfl,rfl,?_⟩); simp only [go_sem,he1])
 ·intro _ e h Y R hlt ⟨hs,hh⟩ hk
  subst hh
  have hlt:decide ((N:Int) < w.t.nodes)=false:=by rw [← q3]; exact hlt
  (repeat' first|simp only [il18l1_go,il18l1b,go_sem,hs,hlt]|with_reducible refine wX fun _=>?_|((with_reducible refine wY ?_ ?_); rfl)|fail)
  all_goals exact hk _ _ _ (.inl ⟨rfl,rfl,rfl⟩)
 ·refine ⟨?_,rfl⟩
  simp only [go_sem]
 ·intro x e h hx
  rw [foldC_all,← List.range_eq_range'] at hx
  rcases hx with ⟨h1,rfl,rfl⟩|⟨h1,rfl,h2⟩
  ·rw [h1]
   (repeat' first|simp only [il18c,go_sem]|with_reducible refine wX fun _=>?_|((with_reducible refine wY ?_ ?_); rfl)|fail)
  ·rw [h1]
   (repeat' first|simp only [il18c,go_sem,h2]|with_reducible refine wX fun _=>?_|((with_reducible refine wY ?_ ?_); rfl)|fail)
end Go.Proofs.YtbibdnlbpjnieaaGreat
namespace Go.Proofs.YtbibdnlbpjnieaaGreat
open Go Go.Abs
section
variable (c1 c2 c3:Bool) (b:Br)
theorem q6P (i:Nat) (hi:i < b.heard.length) (hcl:b.costs.length=b.heard.length) (hb:-1000000000≤(ofr b i).c∧(ofr b i).c≤1000000000) :
  ans Tryz.prog pol 127 [brT c1 c2 c3 b,I (i:Nat)]=some (.tup [rkT (ofr b i),B (leads b i)]):=by
 have hg:(b.heard.map encH)[i]? = some (encH (hrd b i)):=by simp [hrd,hi]
 have hcs:(b.costs.map I)[i]? = some (I (cst b i)):=by simp [cst,show i < b.costs.length by omega]
 have v1:IntKind.i64.wrap ((hrd b i).c+cst b i)=(hrd b i).c+cst b i:=q09 (by simp only [ofr] at hb; omega) (by simp only [ofr] at hb; omega)
 have hL:leads b i=((hrd b i).is && (decide ((hrd b i).c+cst b i≤1048576) && (decide ((hrd b i).a < b.p) || (decide ((hrd b i).a=b.p) && decide ((hrd b i).b < b.n))))):=by
  have hA:(!decide (1048576 < (hrd b i).c+cst b i))=decide ((hrd b i).c+cst b i≤1048576):=by
   rw [Bool.eq_iff_iff]; simp only [Bool.not_eq_true',decide_eq_false_iff_not,decide_eq_true_eq]; omega
  have hB:decide (lt2 (hrd b i).a (hrd b i).b b.p b.n)=(decide ((hrd b i).a < b.p) || (decide ((hrd b i).a=b.p) && decide ((hrd b i).b < b.n))):=by
   rw [Bool.eq_iff_iff]; simp only [Bool.and_eq_true,Bool.or_eq_true,decide_eq_true_eq,lt2]; exact decide_eq_true_iff
  rw [leads,show (ofr b i).c=(hrd b i).c+cst b i from rfl,hA,hB,Bool.and_assoc]
 rw [hL]
 simp only [ofr]
 generalize hd1:decide ((hrd b i).a < b.p)=d1
 generalize hd2:decide ((hrd b i).a=b.p)=d2
 generalize hd3:decide ((hrd b i).b < b.n)=d3
 generalize hd4:decide ((hrd b i).c+cst b i≤1048576)=d4
 cases q0:(hrd b i).is <;> cases d1 <;> cases d2 <;> cases d3 <;> cases d4
 all_goals refine q00 1 1 il127_eq (Nat.le_of_ble_eq_true rfl) ?_
 all_goals ((repeat' first|simp only [il127c,go_sem,hg,hcs,q02,v1,hd1,hd2,hd3,hd4,q0]|with_reducible refine wX fun _=>?_|((with_reducible refine wY ?_ ?_); rfl)|fail))
def Iv (b:Br) (s:Os'):Prop:=s.t.via = -1∨∃ j:Nat,j < b.ports.length∧s.t.via=j∧s.m=ofr b j
theorem q3L (hb:okB b=true):ans Tryz.prog pol 95 [brT c1 c2 c3 b]=some (I (opF b).t.via):=by
 have hl:=q0j hb
 simp only [okL] at hl
 have hof:=fun i (hi:i < b.ports.length)=>q6P c1 c2 c3 b i (by omega) (by omega) (q3z hb i (by omega))
 have hpl:b.ports.length=b.heard.length:=by omega
 refine q00 100 1 il95_eq (Nat.le_of_ble_eq_true rfl) ?_
 (repeat' first|simp only [il95c,go_sem]|with_reducible refine wX fun _=>?_|((with_reducible refine wY ?_ ?_); rfl)|fail)
 refine q0D b.ports.length (step:=fun i (s:Os')=>Ctl.go (ldS b (opS b) s i)) (fin:=id)
  (St:=fun i s e h=>(e 1=.t (.ip (brC c1 c2 c3 b))∧e 3=.t (I s.t.via)∧e 4=.t (I (i:Nat)))∧h=[]∧Iv b s)
  (Ex:=fun s x e h=>e 3=.t (I s.t.via)∧x=.exit 0∧h=[]) (s:=⟨tp0 b,zH,0⟩) (by omega) ?_ ?_ (by omega) ?_ ?_
 ·intro i s e h Y R hi hlt hw ⟨hs,hh,hiv⟩ hk
  subst hh
  simp only [q01] at hk
  have k1:=hof i hi
  by_cases q:leads b i=true
  rotate_left
  ·rw [ldS,if_neg q] at hk
   have q':leads b i=false:=by simpa using q
   rw [q'] at k1
   generalize ofr b i=v at *
   (repeat' first|simp only [il95l0_go,il95l0b,go_sem,hs,hlt,k1,hw]|with_reducible refine wX fun _=>?_|((with_reducible refine wY ?_ ?_); rfl)|fail)
   all_goals (refine hk _ _ ⟨?_,rfl,hiv⟩; simp only [go_sem,hs,hw])
  rw [ldS,if_pos q] at hk
  rw [q] at k1
  rcases hiv with hv|⟨j,hj,hv,hm⟩
  ·have hv0:s.t.via < 0:=by omega
   rw [opS,if_pos (.inl hv0)] at hk
   have hiv':Iv b ⟨⟨(ofr b i).a,(ofr b i).b,(ofr b i).c,i,(ofr b i).g⟩,ofr b i,1⟩:=.inr ⟨i,hi,rfl,rfl⟩
   have d0:decide ((-1:Int) < 0)=true:=by decide
   rw [hv] at hs
   generalize ofr b i=v at *
   (repeat' first|simp only [il95l0_go,il95l0b,go_sem,hs,hlt,k1,hw,d0]|with_reducible refine wX fun _=>?_|((with_reducible refine wY ?_ ?_); rfl)|fail)
   all_goals (refine hk _ _ ⟨?_,rfl,hiv'⟩; simp only [go_sem,hs,hw])
  ·have d0:decide (((j:Nat):Int) < 0)=false:=decide_eq_false (by omega)
   have k2:=hof j hj
   have k3:=q3s (ofr b i) (ofr b j)
   by_cases q2:lt6 (ofr b i) s.m < 0
   ·rw [opS,if_pos (.inr q2)] at hk
    have hiv':Iv b ⟨⟨(ofr b i).a,(ofr b i).b,(ofr b i).c,i,(ofr b i).g⟩,ofr b i,1⟩:=.inr ⟨i,hi,rfl,rfl⟩
    rw [hm] at q2
    rw [decide_eq_true q2] at k3
    rw [hv] at hs
    generalize ofr b i=v at *
    generalize ofr b j=w at *
    (repeat' first|simp only [il95l0_go,il95l0b,go_sem,hs,hlt,k1,k2,k3,hw,d0]|with_reducible refine wX fun _=>?_|((with_reducible refine wY ?_ ?_); rfl)|fail)
    all_goals (refine hk _ _ ⟨?_,rfl,hiv'⟩; simp only [go_sem,hs,hw])
   ·rw [opS,if_neg (by rintro (h|h); omega; exact q2 h)] at hk
    have hiv':Iv b s:=.inr ⟨j,hj,hv,hm⟩
    rw [hm] at q2
    rw [decide_eq_false q2] at k3
    rw [hv] at hs
    clear hm
    generalize ofr b i=v at *
    generalize ofr b j=w at *
    (repeat' first|simp only [il95l0_go,il95l0b,go_sem,hs,hlt,k1,k2,k3,hw,d0]|with_reducible refine wX fun _=>?_|((with_reducible refine wY ?_ ?_); rfl)|fail)
    all_goals (refine hk _ _ ⟨?_,rfl,hiv'⟩; simp only [go_sem,hs,hw,hv])
 ·intro s e h Y R hlt ⟨hs,hh,hiv⟩ hk
  subst hh
  (repeat' first|simp only [il95l0_go,il95l0b,go_sem,hs,hlt]|with_reducible refine wX fun _=>?_|((with_reducible refine wY ?_ ?_); rfl)|fail)
  all_goals (refine hk _ _ _ ⟨?_,rfl,rfl⟩; simp only [go_sem,hs,id])
 ·refine ⟨?_,rfl,.inl rfl⟩
  simp only [go_sem,tp0]
 ·intro x e h ⟨h1,h2,h3⟩
  subst h2 h3
  have hf:∀ (k i:Nat) (s:Os'),foldC (ρ:=Os') (fun i (_:Unit) s=>Ctl.go (ldS b (opS b) s i)) id i (List.replicate k ()) s=(List.range' i k).foldl (ldS b (opS b)) s:=by
   intro k
   induction k with
   | zero=>intro i s; rfl
   | succ k ih=>intro i s; rw [List.replicate_succ,q0a (s':=ldS b (opS b) s i) rfl,ih,List.range'_succ]; rfl
  rw [hf,← List.range_eq_range',hpl] at h1
  rw [opF]
  generalize List.foldl (ldS b (opS b)) ⟨tp0 b,zH,0⟩ (List.range b.heard.length)=s at *
  (repeat' first|simp only [il95c,go_sem,h1]|with_reducible refine wX fun _=>?_|((with_reducible refine wY ?_ ?_); rfl)|fail)
theorem q6Q (hb:okB b=true) (i:Nat) (hi:i < b.ports.length):ans Tryz.prog pol 97 [brT c1 c2 c3 b,I (i:Nat)]=some (rkT (clm b (opF b).t i)):=by
 have hl:=q0j hb
 simp only [okL] at hl
 have hg:(b.ports.map I)[i]? = some (I (prt b i)):=by simp [prt,hi]
 have k0:=q3L c1 c2 c3 b hb
 rcases q3E b with h|⟨j,hj,hld,h⟩
 ·rw [h] at k0 ⊢
  simp only [clm,tp0] at k0 ⊢
  generalize prt b i=P at *
  refine q00 1 1 il97_eq (Nat.le_of_ble_eq_true rfl) ?_
  (repeat' first|simp only [il97c,go_sem,hg,k0]|with_reducible refine wX fun _=>?_|((with_reducible refine wY ?_ ?_); rfl)|fail)
 ·rw [h] at k0 ⊢
  have k1:=q6P c1 c2 c3 b j hj (by omega) (q3z hb j hj)
  have d0:decide (0≤((j:Nat):Int))=true:=decide_eq_true (by omega)
  have d0':decide (((j:Nat):Int) < 0)=false:=decide_eq_false (by omega)
  simp only [clm] at k0 ⊢
  generalize prt b i=P at *
  generalize ofr b j=v at *
  refine q00 1 1 il97_eq (Nat.le_of_ble_eq_true rfl) ?_
  (repeat' first|simp only [il97c,go_sem,hg,k0,k1,d0,d0']|with_reducible refine wX fun _=>?_|((with_reducible refine wY ?_ ?_); rfl)|fail)
theorem qiI (hb:okB b=true) (i:Nat) (hi:i < b.ports.length):ans Tryz.prog pol 50 [brT c1 c2 c3 b,I (i:Nat)]=some (I (roleF b (opF b).t i)):=by
 have hl:=q0j hb
 simp only [okL] at hl
 have hg:(b.heard.map encH)[i]? = some (encH (hrd b i)):=by simp [hrd,show i < b.heard.length by omega]
 have k0:=q3L c1 c2 c3 b hb
 have k1:=q6Q c1 c2 c3 b hb i hi
 generalize (opF b).t=t at *
 have k2:=q3s (clm b t i) (hrd b i)
 refine q00 1 1 il50_eq (Nat.le_of_ble_eq_true rfl) ?_
 by_cases q0:(i:Int)=t.via
 ·have d0:decide (t.via=(i:Int))=true:=decide_eq_true q0.symm
  rw [roleF,if_pos q0]
  (repeat' first|simp only [il50c,go_sem,hg,q02,k0,d0]|with_reducible refine wX fun _=>?_|((with_reducible refine wY ?_ ?_); rfl)|fail)
 have d0:decide (t.via=(i:Int))=false:=decide_eq_false (fun h=>q0 h.symm)
 rw [roleF,if_neg q0]
 by_cases q1:(hrd b i).is=false
 ·rw [if_pos (.inl q1)]
  (repeat' first|simp only [il50c,go_sem,hg,q02,k0,d0,q1]|with_reducible refine wX fun _=>?_|((with_reducible refine wY ?_ ?_); rfl)|fail)
 have q1':(hrd b i).is=true:=by simpa using q1
 by_cases q2:lt6 (clm b t i) (hrd b i) < 0
 ·rw [decide_eq_true q2] at k2
  rw [if_pos (.inr q2)]
  generalize clm b t i=v at *
  (repeat' first|simp only [il50c,go_sem,hg,q02,k0,d0,q1',k1,k2]|with_reducible refine wX fun _=>?_|((with_reducible refine wY ?_ ?_); rfl)|fail)
 ·rw [decide_eq_false q2] at k2
  rw [if_neg (by rintro (h|h); exact q1 h; exact q2 h)]
  generalize clm b t i=v at *
  (repeat' first|simp only [il50c,go_sem,hg,q02,k0,d0,q1',k1,k2]|with_reducible refine wX fun _=>?_|((with_reducible refine wY ?_ ?_); rfl)|fail)
theorem qiJ (hb:okB b=true) (i:Nat) (hi:i < b.ports.length):ans Tryz.prog pol 63 [brT c1 c2 c3 b,I (i:Nat)]=some (hdT (sentF b (opF b).t i)):=by
 have hl:=q0j hb
 simp only [okL] at hl
 have k0:=q3L c1 c2 c3 b hb
 have k1:=q6Q c1 c2 c3 b hb i hi
 have k2:=qiI c1 c2 c3 b hb i hi
 by_cases q:roleF b (opF b).t i=2
 rotate_left
 ·have d1:decide (roleF b (opF b).t i=2)=false:=decide_eq_false q
  rw [sentF,if_neg q]
  simp only [zH]
  refine q00 1 1 il63_eq (Nat.le_of_ble_eq_true rfl) ?_
  (repeat' first|simp only [il63c,go_sem,k2,d1]|with_reducible refine wX fun _=>?_|((with_reducible refine wY ?_ ?_); rfl)|fail)
 have d1:decide (roleF b (opF b).t i=2)=true:=decide_eq_true q
 rw [sentF,if_pos q]
 rw [q] at k2
 rcases q3E b with h|⟨j,hj,hld,h⟩
 ·rw [h] at k0 k1 ⊢
  simp only [clm,tp0] at k0 k1 ⊢
  generalize prt b i=P at *
  refine q00 1 1 il63_eq (Nat.le_of_ble_eq_true rfl) ?_
  (repeat' first|simp only [il63c,go_sem,k0,k1,k2]|with_reducible refine wX fun _=>?_|((with_reducible refine wY ?_ ?_); rfl)|fail)
 ·rw [h] at k0 k1 ⊢
  have hg:(b.heard.map encH)[j]? = some (encH (hrd b j)):=by simp [hrd,hj]
  have hgg:(ofr b j).g=(hrd b j).g:=rfl
  have d0:decide (0≤((j:Nat):Int))=true:=decide_eq_true (by omega)
  have d0':decide (((j:Nat):Int) < 0)=false:=decide_eq_false (by omega)
  simp only [clm,hgg] at k0 k1 ⊢
  generalize prt b i=P at *
  generalize ofr b j=v at *
  refine q00 1 1 il63_eq (Nat.le_of_ble_eq_true rfl) ?_
  (repeat' first|simp only [il63c,go_sem,k0,k1,k2,hg,q02,d0,d0']|with_reducible refine wX fun _=>?_|((with_reducible refine wY ?_ ?_); rfl)|fail)
end
end Go.Proofs.YtbibdnlbpjnieaaGreat
namespace Go.Proofs.YtbibdnlbpjnieaaGreat
open Go Go.Abs
theorem qiK (x y:Hd):lt6 y x = - lt6 x y:=qfq _ _
theorem qiL (c1 c2 c3:Bool) (b:Br) (i:Nat) (h:Hd) (hi:i < b.heard.length) (hl:b.heard.length≤1000) :
  ∃ c,ans Tryz.prog pol 64 [brT c1 c2 c3 b,I (i:Nat),heT h]=some (brT c1 c2 c (putB b (b.heard.set i (rcvH (hrd b i) h)))):=by
 have ho:b.heard[i]? = some (hrd b i):=by simp [hrd,hi]
 have hg:(b.heard.map encH)[i]? = some (encH (hrd b i)):=by simp [ho]
 have hsame:=q2p ho
 have k1:=q3u c1 c2 c3 b i (heardAs h) hi hl
 have k2:=q3s (hrd b i) h
 have hneg:=qiK h (hrd b i)
 generalize hrd b i=o at *
 have hset:∀ q:rcvH o h=heardAs h,(b.heard.set i (rcvH o h))=b.heard.set i (heardAs h):=fun q=>by rw [q]
 have hkeep:∀ q:rcvH o h=o,putB b (b.heard.set i (rcvH o h))=b:=fun q=>by rw [q,hsame]; rfl
 simp only [heardAs] at k1
 by_cases q0:o.is=false
 ·refine ⟨false,?_⟩
  rw [hset (by rw [rcvH,if_pos (.inl q0)])]
  simp only [putB,heardAs] at k1 ⊢
  generalize b.heard.set i ⟨true,h.a,h.b,h.c,h.d,h.e,h.f,h.g⟩=L at *
  refine q00 1 1 il64_eq (Nat.le_of_ble_eq_true rfl) ?_
  by_cases qa:o.d=h.d∧o.e=h.e
  ·have da:decide (o.d=h.d∧o.e=h.e)=true:=decide_eq_true qa
   (repeat' first|simp only [il64c,go_sem,hg,q02,q0,da,k1]|with_reducible refine wX fun _=>?_|((with_reducible refine wY ?_ ?_); rfl)|fail)
  ·have da:decide (o.d=h.d∧o.e=h.e)=false:=decide_eq_false qa
   (repeat' first|simp only [il64c,go_sem,hg,q02,q0,da,k1]|with_reducible refine wX fun _=>?_|((with_reducible refine wY ?_ ?_); rfl)|fail)
 have q0':o.is=true:=by simpa using q0
 by_cases qs:(o.d=h.d∧o.e=h.e)∧o.f=h.f
 ·refine ⟨false,?_⟩
  have da:decide (o.d=h.d∧o.e=h.e)=true:=decide_eq_true qs.1
  have db:decide (o.f=h.f)=true:=decide_eq_true qs.2
  rw [hset (by rw [rcvH,if_pos (.inr (.inl qs))])]
  simp only [putB,heardAs] at k1 ⊢
  generalize b.heard.set i ⟨true,h.a,h.b,h.c,h.d,h.e,h.f,h.g⟩=L at *
  refine q00 1 1 il64_eq (Nat.le_of_ble_eq_true rfl) ?_
  (repeat' first|simp only [il64c,go_sem,hg,q02,q0',da,db,k1]|with_reducible refine wX fun _=>?_|((with_reducible refine wY ?_ ?_); rfl)|fail)
 have two:(decide (o.d=h.d∧o.e=h.e)=false)∨(decide (o.d=h.d∧o.e=h.e)=true∧decide (o.f=h.f)=false):=by
  by_cases qa:o.d=h.d∧o.e=h.e
  ·exact .inr ⟨decide_eq_true qa,decide_eq_false (fun q=>qs ⟨qa,q⟩)⟩
  ·exact .inl (decide_eq_false qa)
 by_cases qc:lt6 h o≤0
 ·refine ⟨false,?_⟩
  rw [decide_eq_false (by omega)] at k2
  rw [hset (by rw [rcvH,if_pos (.inr (.inr qc))])]
  simp only [putB,heardAs] at k1 ⊢
  generalize b.heard.set i ⟨true,h.a,h.b,h.c,h.d,h.e,h.f,h.g⟩=L at *
  refine q00 1 1 il64_eq (Nat.le_of_ble_eq_true rfl) ?_
  rcases two with da|⟨da,db⟩
  ·(repeat' first|simp only [il64c,go_sem,hg,q02,q0',da,k1,k2]|with_reducible refine wX fun _=>?_|((with_reducible refine wY ?_ ?_); rfl)|fail)
  ·(repeat' first|simp only [il64c,go_sem,hg,q02,q0',da,db,k1,k2]|with_reducible refine wX fun _=>?_|((with_reducible refine wY ?_ ?_); rfl)|fail)
 ·refine ⟨c3,?_⟩
  rw [decide_eq_true (by omega)] at k2
  rw [hkeep (by rw [rcvH,if_neg (by rintro (h1|h1|h1); exact q0 h1; exact qs h1; exact qc h1)])]
  refine q00 1 1 il64_eq (Nat.le_of_ble_eq_true rfl) ?_
  rcases two with da|⟨da,db⟩
  ·(repeat' first|simp only [il64c,go_sem,hg,q02,q0',da,k2]|with_reducible refine wX fun _=>?_|((with_reducible refine wY ?_ ?_); rfl)|fail)
  ·(repeat' first|simp only [il64c,go_sem,hg,q02,q0',da,db,k2]|with_reducible refine wX fun _=>?_|((with_reducible refine wY ?_ ?_); rfl)|fail)
theorem qiM (c1 c2 c3:Bool) (b:Br) (i:Nat) (hi:i < b.heard.length) (hl:b.heard.length≤1000):ans Tryz.prog pol 66 [brT c1 c2 c3 b,I (i:Nat)]=some (brT c1 c2 false (putB b (b.heard.set i zH))):=by
 have k1:=q3u c1 c2 c3 b i zH hi hl
 simp only [putB] at k1 ⊢
 generalize b.heard.set i zH=L at *
 simp only [zH] at k1
 refine q00 1 1 il66_eq (Nat.le_of_ble_eq_true rfl) ?_
 (repeat' first|simp only [il66c,go_sem,k1]|with_reducible refine wX fun _=>?_|((with_reducible refine wY ?_ ?_); rfl)|fail)
def tickR (h:Hd):Hd:=if h.is=true∧h.g < 20 then ⟨h.is,h.a,h.b,h.c,h.d,h.e,h.f,h.g+1⟩ else zH
theorem qiN {h:Hd} (hk:okH h):tickR h=tickH h:=by
 unfold tickR tickH
 by_cases q:h.is=false
 ·rw [if_pos q,if_neg (by rw [q]; simp),hk.2 q]
 ·have q':h.is=true:=by simpa using q
  rw [if_neg q]
  by_cases q2:h.g < 20
  ·rw [if_pos ⟨q',q2⟩,if_neg (by omega)]
  ·rw [if_neg (fun h=>q2 h.2),if_pos (by omega)]
theorem q6R (c1 c2 c3:Bool) (b:Br) (hl:b.heard.length≤1000) (hb:∀ h∈b.heard,-1000000≤h.g∧h.g≤1000000) :
  ∃ c,ans Tryz.prog pol 65 [brT c1 c2 c3 b]=some (brT c1 c2 c (putB b (b.heard.map tickR))):=by
 refine ⟨if b.heard.length=0 then c3 else false,?_⟩
 refine q00 2000 1 il65_eq (Nat.le_of_ble_eq_true rfl) ?_
 (repeat' first|simp only [il65c,go_sem]|with_reducible refine wX fun _=>?_|((with_reducible refine wY ?_ ?_); rfl)|fail)
 refine q04 b.heard encH (step:=fun i _ (_:Unit)=>Ctl.go ()) (fin:=id)
  (St:=fun i _ e h=>(e 1=.ref 0 1 0 0∧e 2=.ref 1 1 0 0∧e 3=.t (I (i:Nat)))∧∃ mr,mr≤1∧h=[.row 5 [.t (brT c1 c2 (if i=0 then c3 else false) (putB b (((b.heard.take i).map tickR)++b.heard.drop i)))] mr,.row 5 [.t zB] 0])
  (Ex:=fun _ x e h=>(e 1=.ref 0 1 0 0∧e 2=.ref 1 1 0 0)∧x=.exit 0∧∃ mr,mr≤1∧h=[.row 5 [.t (brT c1 c2 (if b.heard.length=0 then c3 else false) (putB b (b.heard.map tickR)))] mr,.row 5 [.t zB] 0]) (s:=()) (by omega) ?_ ?_ (by omega) ?_ ?_
 ·intro i o _ e h Y R hm hi hx hget hlt hw ⟨hs,mr,hmr,hh⟩ hk
  subst hh
  simp only [q01] at hk
  have hob:=hb o hm
  have hL:(((b.heard.take i).map tickR)++b.heard.drop i)[i]? = some o:=by
   rw [List.getElem?_append_right (by simp; omega)]
   simp [List.length_take,Nat.min_eq_left (Nat.le_of_lt hi),hx]
  have hnext:(((b.heard.take i).map tickR)++b.heard.drop i).set i (tickR o)=((b.heard.take (i+1)).map tickR)++b.heard.drop (i+1):=by
   have h1:b.heard.drop i=o::b.heard.drop (i+1):=by
    obtain ⟨h1,h2⟩:=List.getElem?_eq_some_iff.1 hx
    rw [← h2]; exact List.drop_eq_getElem_cons h1
   have h2:b.heard.take (i+1)=b.heard.take i++[o]:=by rw [List.take_add_one,hx]; rfl
   have h3:((b.heard.take i).map tickR).length=i:=by simp; omega
   rw [h1,h2,List.set_append,h3]
   simp
  have hLl:(((b.heard.take i).map tickR)++b.heard.drop i).length=b.heard.length:=by simp; omega
  rw [if_neg (show ¬ i+1=0 by omega),← hnext] at hk
  generalize ((b.heard.take i).map tickR)++b.heard.drop i=L at *
  generalize (if i=0 then c3 else false)=cc at *
  have hg:(L.map encH)[i]? = some (encH o):=by simp [hL]
  have k1:=q3u c1 c2 cc (putB b L) i (tickR o) (by simp only [putB]; omega) (by simp only [putB]; omega)
  have hlt':decide ((i:Int) < (L.length:Nat))=true:=decide_eq_true (by omega)
  have v1:IntKind.i64.wrap (o.g+1)=o.g+1:=q09 (by omega) (by omega)
  simp only [putB] at k1 hk ⊢
  by_cases q0:o.is=true∧o.g < 20
  ·have ht:tickR o=⟨o.is,o.a,o.b,o.c,o.d,o.e,o.f,o.g+1⟩:=by rw [tickR,if_pos q0]
   rw [ht] at k1 hk
   have d1:decide (o.g < 20)=true:=decide_eq_true q0.2
   have q1:=q0.1
   simp only [q1] at k1 hk
   generalize L.set i ⟨true,o.a,o.b,o.c,o.d,o.e,o.f,o.g+1⟩=L2 at *
   (repeat' first|simp only [il65l0_go,il65l0b,go_sem,hs,hmr,hlt',hg,q02,q1,d1,v1,k1,hw]|with_reducible refine wX fun _=>?_|((with_reducible refine wY ?_ ?_); rfl)|fail)
   all_goals (refine hk _ _ ⟨?_,1,by omega,rfl⟩; simp only [go_sem,hs,hw])
  ·have ht:tickR o=zH:=by rw [tickR,if_neg q0]
   rw [ht] at k1 hk
   generalize L.set i zH=L2 at *
   simp only [zH] at k1
   by_cases q1:o.is=true
   ·have d1:decide (o.g < 20)=false:=decide_eq_false (fun h=>q0 ⟨q1,h⟩)
    (repeat' first|simp only [il65l0_go,il65l0b,go_sem,hs,hmr,hlt',hg,q02,q1,d1,k1,hw]|with_reducible refine wX fun _=>?_|((with_reducible refine wY ?_ ?_); rfl)|fail)
    all_goals (refine hk _ _ ⟨?_,1,by omega,rfl⟩; simp only [go_sem,hs,hw])
   ·have q1':o.is=false:=by simpa using q1
    (repeat' first|simp only [il65l0_go,il65l0b,go_sem,hs,hmr,hlt',hg,q02,q1',k1,hw]|with_reducible refine wX fun _=>?_|((with_reducible refine wY ?_ ?_); rfl)|fail)
    all_goals (refine hk _ _ ⟨?_,1,by omega,rfl⟩; simp only [go_sem,hs,hw])
 ·intro _ e h Y R hlt ⟨hs,mr,hmr,hh⟩ hk
  subst hh
  have hLe:((b.heard.take b.heard.length).map tickR)++b.heard.drop b.heard.length=b.heard.map tickR:=by simp
  rw [hLe]
  have hll:(b.heard.map tickR).length=b.heard.length:=by simp
  have hlt':decide (((b.heard.length:Nat):Int) < ((b.heard.map tickR).length:Nat))=false:=by rw [hll]; exact hlt
  simp only [putB] at hk ⊢
  generalize b.heard.map tickR=L at *
  generalize (if b.heard.length=0 then c3 else false)=cc at *
  (repeat' first|simp only [il65l0_go,il65l0b,go_sem,hs,hmr,hlt']|with_reducible refine wX fun _=>?_|((with_reducible refine wY ?_ ?_); rfl)|fail)
  all_goals (refine hk _ _ _ ⟨?_,rfl,mr,hmr,rfl⟩; simp only [go_sem,hs])
 ·refine ⟨?_,0,by omega,?_⟩
  ·simp only [go_sem]
  ·simp [putB]
 ·intro x e h ⟨h1,h2,mr,hmr,h3⟩
  subst h2 h3
  simp only [putB]
  generalize b.heard.map tickR=L at *
  generalize (if b.heard.length=0 then c3 else false)=cc at *
  (repeat' first|simp only [il65c,go_sem,h1,hmr]|with_reducible refine wX fun _=>?_|((with_reducible refine wY ?_ ?_); rfl)|fail)
end Go.Proofs.YtbibdnlbpjnieaaGreat
