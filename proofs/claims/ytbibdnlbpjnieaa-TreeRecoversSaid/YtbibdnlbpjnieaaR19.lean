/- Part 19 of the proof of TreeRecovers. -/
import Derived.Test.YtbibdnlbpjnieaaR18
set_option linter.all false
set_option maxRecDepth 100000
set_option maxHeartbeats 4000000
namespace Go.Proofs.Ytbibdnlbpjnieaa
open Go Go.Abs
theorem dL1_24 (d:Dr):(dL1 d).length≤24:=foldl_24 (fun L a h=>wD_24 h) _ _ (Nat.zero_le _)
theorem dL2_24 (d:Dr):(dL2 d).length≤24:=foldl_24 (fun L a h=>wD_24 h) _ _ (dL1_24 d)
theorem dL3_24 (d:Dr):(dL3 d).length≤24:=by
 unfold dL3
 split
 ·exact wD_24 (dL2_24 d)
 ·exact dL2_24 d
theorem dL4_24 (d:Dr):(dL4 d).length≤24:=foldl_24 (fun L a h=>by
 split
 ·exact wD_24 h
 ·exact h) _ _ (dL3_24 d)
section
variable (c1 c2 c3 c4:Bool) (d:Dr) (hd:drP d)
include hd
theorem hst_d:((dSt d).length:Int)=((brN d+stN d:Nat):Int):=by rw [dSt_len]
theorem topo_l2 (dd nn:Nat) (hn:100 < nn) (R:Xit→FEnv→Heap→Prop) (e:FEnv) (he:eD c1 c2 c3 c4 d e∧e 4=.t (I (stN d:Nat))∧e 8=.t (I 0))
  (hR:∀ e,eD c1 c2 c3 c4 d e∧e 4=.t (I (stN d:Nat))→R (.exit 4) e (hpT ((brN d+stN d:Nat):Int) (dSt d) (dL2 d) (dSt d).length (dL2 d).length 1)) :
  wpIter 4 (some [1,2,3,4,5,8]) (wc Try.prog pol (ans Try.prog pol) (inl Try.prog pol (ans Try.prog pol) nn (dd+1)) nn 22 il22l2) R nn e (hpT ((brN d+stN d:Nat):Int) (dSt d) (dL1 d) (dSt d).length (dL1 d).length 1):=by
 obtain ⟨b1,b2,b3⟩:=brN_bd hd
 obtain ⟨s1,s2,s3⟩:=stN_bd hd
 have hst:=hst_d d hd
 refine loop_upto (stN d) (step:=fun s (L:List Lk)=>.go (wD d L ((brN d+s:Nat):Int) (pkL d.homes (2*s) % (brN d:Nat)))) (fin:=id)
  (St:=fun i L e h=>(eD c1 c2 c3 c4 d e∧e 4=.t (I (stN d:Nat))∧e 8=.t (I (i:Nat)))∧L.length≤24∧h=hpT ((brN d+stN d:Nat):Int) (dSt d) L (dSt d).length L.length 1)
  (Ex:=fun L x e h=>(eD c1 c2 c3 c4 d e∧e 4=.t (I (stN d:Nat)))∧x=.exit 4∧h=hpT ((brN d+stN d:Nat):Int) (dSt d) L (dSt d).length L.length 1) (s:=dL1 d) (by omega) ?_ ?_ (by omega) ?_ ?_
 ·intro i L e h Y R hi hlt hw ⟨⟨⟨e1,e2,e3,e5⟩,e4,e8⟩,hl,hh⟩ hk
  subst hh
  simp only [ctlK_go] at hk
  have v1:IntKind.i64.wrap (((brN d:Nat):Int)+(i:Nat))=((brN d+i:Nat):Int):=by rw [wrap_i64 (by omega) (by omega)]; omega
  have v2:IntKind.i64.wrap (2*((i:Nat):Int))=((2*i:Nat):Int):=by rw [wrap_i64 (by omega) (by omega)]; omega
  have k1:=pick_ans c2 d.homes (2*i) hd.homes
  have hb:=pkL_bd hd.homes (2*i)
  have t1:(pkL d.homes (2*i)).tmod (brN d:Nat)=pkL d.homes (2*i) % (brN d:Nat):=Int.tmod_eq_emod_of_nonneg hb.1
  have hm0:=Int.emod_nonneg (pkL d.homes (2*i)) (b:=((brN d:Nat):Int)) (by omega)
  have hm1:=Int.emod_lt_of_pos (pkL d.homes (2*i)) (b:=((brN d:Nat):Int)) (by omega)
  have v3:IntKind.i64.wrap (pkL d.homes (2*i) % (brN d:Nat))=pkL d.homes (2*i) % (brN d:Nat):=wrap_i64 (by omega) (by omega)
  have hn0:¬ (((brN d:Nat):Int)=0):=by omega
  have hcall:=@with_inl c1 c2 c3 c4 d hd ((brN d+stN d:Nat):Int) (dSt d) L hst hl (by omega) 1 (Nat.le_refl _) ((brN d+i:Nat):Int) (pkL d.homes (2*i) % (brN d:Nat)) dd nn hn
  have hl2:(wD d L ((brN d+i:Nat):Int) (pkL d.homes (2*i) % (brN d:Nat))).length≤24:=wD_24 hl
  change ∀ Q:AV→Heap→Prop,(∀ q5 m5 q8 l,m5≤1→Q (.agg (tpA _ (dSt d).length (wD d L ((brN d+i:Nat):Int) (pkL d.homes (2*i) % (brN d:Nat))).length)) (hpT _ (dSt d) (wD d L ((brN d+i:Nat):Int) (pkL d.homes (2*i) % (brN d:Nat))) (dSt d).length L.length 1++zzT _ (dSt d).length q5 m5 q8 l))→_ at hcall
  generalize wD d L ((brN d+i:Nat):Int) (pkL d.homes (2*i) % (brN d:Nat))=L2 at *
  generalize pkL d.homes (2*i)=V at *
  simp only [hpT,zzT,drT,List.cons_append,List.nil_append] at hcall hk ⊢
  (repeat' first|simp only [il22l2_go,il22l2b,go_sem,e1,e2,e3,e4,e5,e8,hlt,hw,v1,v2,v3,k1,t1,hn0]|(with_reducible first|apply wD|apply wT|(apply wM; intro)|(apply wL; intro))|((with_reducible first|refine wA ?_ ?_|refine wE ?_); rfl))
  with_reducible refine hcall _ ?_
  intro q5 m5 q8 l hm5
  (repeat' first|simp only [List.cons_append,List.nil_append,go_sem,e1,e2,e3,e4,e5,e8,hw,frz_mapS]|(with_reducible first|apply wD|apply wT|(apply wM; intro)|(apply wL; intro))|((with_reducible first|refine wA ?_ ?_|refine wE ?_); rfl))
  all_goals (refine hk _ _ ⟨?_,hl2,?_⟩ <;> simp only [go_sem,eD,e1,e2,e3,e4,e5,e8,hw])
 ·intro L e h Y R hlt ⟨⟨⟨e1,e2,e3,e5⟩,e4,e8⟩,hl,hh⟩ hk
  subst hh
  simp only [hpT] at hk ⊢
  (repeat' first|simp only [il22l2_go,il22l2b,go_sem,e1,e2,e3,e4,e5,e8,hlt]|(with_reducible first|apply wD|apply wT|(apply wM; intro)|(apply wL; intro))|((with_reducible first|refine wA ?_ ?_|refine wE ?_); rfl))
  all_goals (refine hk _ _ _ ⟨?_,rfl,rfl⟩; simp only [go_sem,eD,e1,e2,e3,e4,e5,e8])
 ·exact ⟨he,dL1_24 d,rfl⟩
 ·intro x e h ⟨h1,h2,h3⟩
  rw [foldC_pure (fun s L=>wD d L ((brN d+s:Nat):Int) (pkL d.homes (2*s) % (brN d:Nat))),← List.range_eq_range'] at h3
  subst h2 h3
  exact hR _ h1
theorem topo_l3 (dd nn:Nat) (hn:100 < nn) (R:Xit→FEnv→Heap→Prop) (e:FEnv) (he:eD c1 c2 c3 c4 d e∧e 4=.t (I (stN d:Nat))∧e 9=.t (I 0))
  (hR:∀ e,eD c1 c2 c3 c4 d e→R (.exit 6) e (hpT ((brN d+stN d:Nat):Int) (dSt d) (dL4 d) (dSt d).length (dL4 d).length 1)) :
  wpIter 4 (some [1,2,3,4,5,9]) (wc Try.prog pol (ans Try.prog pol) (inl Try.prog pol (ans Try.prog pol) nn (dd+1)) nn 22 il22l3) R nn e (hpT ((brN d+stN d:Nat):Int) (dSt d) (dL3 d) (dSt d).length (dL3 d).length 1):=by
 obtain ⟨b1,b2,b3⟩:=brN_bd hd
 obtain ⟨s1,s2,s3⟩:=stN_bd hd
 have hst:=hst_d d hd
 refine loop_upto (stN d) (step:=fun s (L:List Lk)=>.go (if 0 < pkL d.homes (2*s+1) % 3 then wD d L ((brN d+s:Nat):Int) (pkL d.homes (2*s+1) % (brN d:Nat)) else L)) (fin:=id)
  (St:=fun i L e h=>(eD c1 c2 c3 c4 d e∧e 4=.t (I (stN d:Nat))∧e 9=.t (I (i:Nat)))∧L.length≤24∧h=hpT ((brN d+stN d:Nat):Int) (dSt d) L (dSt d).length L.length 1)
  (Ex:=fun L x e h=>(eD c1 c2 c3 c4 d e)∧x=.exit 6∧h=hpT ((brN d+stN d:Nat):Int) (dSt d) L (dSt d).length L.length 1) (s:=dL3 d) (by omega) ?_ ?_ (by omega) ?_ ?_
 ·intro i L e h Y R hi hlt hw ⟨⟨⟨e1,e2,e3,e5⟩,e4,e9⟩,hl,hh⟩ hk
  subst hh
  simp only [ctlK_go] at hk
  have v1:IntKind.i64.wrap (((brN d:Nat):Int)+(i:Nat))=((brN d+i:Nat):Int):=by rw [wrap_i64 (by omega) (by omega)]; omega
  have v2:IntKind.i64.wrap (2*((i:Nat):Int))=((2*i:Nat):Int):=by rw [wrap_i64 (by omega) (by omega)]; omega
  have v4:IntKind.i64.wrap (((2*i:Nat):Int)+1)=((2*i+1:Nat):Int):=by rw [wrap_i64 (by omega) (by omega)]; omega
  have k1:=pick_ans c2 d.homes (2*i+1) hd.homes
  have hb:=pkL_bd hd.homes (2*i+1)
  have t1:(pkL d.homes (2*i+1)).tmod (brN d:Nat)=pkL d.homes (2*i+1) % (brN d:Nat):=Int.tmod_eq_emod_of_nonneg hb.1
  have t2:(pkL d.homes (2*i+1)).tmod 3=pkL d.homes (2*i+1) % 3:=Int.tmod_eq_emod_of_nonneg hb.1
  have hm0:=Int.emod_nonneg (pkL d.homes (2*i+1)) (b:=((brN d:Nat):Int)) (by omega)
  have hm1:=Int.emod_lt_of_pos (pkL d.homes (2*i+1)) (b:=((brN d:Nat):Int)) (by omega)
  have v3:IntKind.i64.wrap (pkL d.homes (2*i+1) % (brN d:Nat))=pkL d.homes (2*i+1) % (brN d:Nat):=wrap_i64 (by omega) (by omega)
  have v5:IntKind.i64.wrap (pkL d.homes (2*i+1) % 3)=pkL d.homes (2*i+1) % 3:=wrap_i64 (by omega) (by omega)
  have hn0:¬ (((brN d:Nat):Int)=0):=by omega
  have hcall:=@with_inl c1 c2 c3 c4 d hd ((brN d+stN d:Nat):Int) (dSt d) L hst hl (by omega) 1 (Nat.le_refl _) ((brN d+i:Nat):Int) (pkL d.homes (2*i+1) % (brN d:Nat)) dd nn hn
  have hl2:(wD d L ((brN d+i:Nat):Int) (pkL d.homes (2*i+1) % (brN d:Nat))).length≤24:=wD_24 hl
  change ∀ Q:AV→Heap→Prop,(∀ q5 m5 q8 l,m5≤1→Q (.agg (tpA _ (dSt d).length (wD d L ((brN d+i:Nat):Int) (pkL d.homes (2*i+1) % (brN d:Nat))).length)) (hpT _ (dSt d) (wD d L ((brN d+i:Nat):Int) (pkL d.homes (2*i+1) % (brN d:Nat))) (dSt d).length L.length 1++zzT _ (dSt d).length q5 m5 q8 l))→_ at hcall
  generalize wD d L ((brN d+i:Nat):Int) (pkL d.homes (2*i+1) % (brN d:Nat))=L2 at *
  generalize pkL d.homes (2*i+1)=V at *
  simp only [hpT,zzT,drT,List.cons_append,List.nil_append] at hcall hk ⊢
  by_cases hq:0 < V % 3
  ·have d1:=decide_eq_true hq
   rw [if_pos hq] at hk
   (repeat' first|simp only [il22l3_go,il22l3b,go_sem,e1,e2,e3,e4,e5,e9,hlt,hw,v1,v2,v3,v4,v5,k1,t1,t2,hn0,d1]|(with_reducible first|apply wD|apply wT|(apply wM; intro)|(apply wL; intro))|((with_reducible first|refine wA ?_ ?_|refine wE ?_); rfl))
   with_reducible refine hcall _ ?_
   intro q5 m5 q8 l hm5
   (repeat' first|simp only [List.cons_append,List.nil_append,go_sem,e1,e2,e3,e4,e5,e9,hw,frz_mapS]|(with_reducible first|apply wD|apply wT|(apply wM; intro)|(apply wL; intro))|((with_reducible first|refine wA ?_ ?_|refine wE ?_); rfl))
   all_goals (refine hk _ _ ⟨?_,hl2,?_⟩ <;> simp only [go_sem,eD,e1,e2,e3,e4,e5,e9,hw])
  ·have d1:=decide_eq_false hq
   rw [if_neg hq] at hk
   (repeat' first|simp only [il22l3_go,il22l3b,go_sem,e1,e2,e3,e4,e5,e9,hlt,hw,v1,v2,v3,v4,v5,k1,t1,t2,hn0,d1,frz_mapS]|(with_reducible first|apply wD|apply wT|(apply wM; intro)|(apply wL; intro))|((with_reducible first|refine wA ?_ ?_|refine wE ?_); rfl))
   all_goals (refine hk _ _ ⟨?_,hl,?_⟩ <;> simp only [go_sem,eD,e1,e2,e3,e4,e5,e9,hw])
 ·intro L e h Y R hlt ⟨⟨⟨e1,e2,e3,e5⟩,e4,e9⟩,hl,hh⟩ hk
  subst hh
  simp only [hpT] at hk ⊢
  (repeat' first|simp only [il22l3_go,il22l3b,go_sem,e1,e2,e3,e4,e5,e9,hlt]|(with_reducible first|apply wD|apply wT|(apply wM; intro)|(apply wL; intro))|((with_reducible first|refine wA ?_ ?_|refine wE ?_); rfl))
  all_goals (refine hk _ _ _ ⟨?_,rfl,rfl⟩; simp only [go_sem,eD,e1,e2,e3,e4,e5,e9])
 ·exact ⟨he,dL3_24 d,rfl⟩
 ·intro x e h ⟨h1,h2,h3⟩
  rw [foldC_pure (fun s L=>if 0 < pkL d.homes (2*s+1) % 3 then wD d L ((brN d+s:Nat):Int) (pkL d.homes (2*s+1) % (brN d:Nat)) else L),← List.range_eq_range'] at h3
  subst h2 h3
  exact hR _ h1
theorem topo_l4 (dd nn:Nat) (hn:100 < nn) (R:Xit→FEnv→Heap→Prop) (e:FEnv) (he:eD c1 c2 c3 c4 d e∧e 10=.t (I 0))
  (hR:∀ e,eD c1 c2 c3 c4 d e→R (.exit 8) e (hpT ((brN d+stN d:Nat):Int) (dSt d) (dL5 d) (dSt d).length (dL5 d).length 1)) :
  wpIter 4 (some [1,2,3,5,10]) (wc Try.prog pol (ans Try.prog pol) (inl Try.prog pol (ans Try.prog pol) nn (dd+1)) nn 22 il22l4) R nn e (hpT ((brN d+stN d:Nat):Int) (dSt d) (dL4 d) (dSt d).length (dL4 d).length 1):=by
 obtain ⟨b1,b2,b3⟩:=brN_bd hd
 obtain ⟨s1,s2,s3⟩:=stN_bd hd
 have hst:=hst_d d hd
 have hch:=hd.chords.2
 refine loop_upto (min 6 (d.chords.length / 2)) (step:=fun i (L:List Lk)=>.go (wD d L (pkL d.chords (2*i) % (brN d:Nat)) (pkL d.chords (2*i+1) % (brN d:Nat)))) (fin:=id)
  (St:=fun i L e h=>(eD c1 c2 c3 c4 d e∧e 10=.t (I ((2*i:Nat):Int)))∧L.length≤24∧h=hpT ((brN d+stN d:Nat):Int) (dSt d) L (dSt d).length L.length 1)
  (Ex:=fun L x e h=>(eD c1 c2 c3 c4 d e)∧x=.exit 8∧h=hpT ((brN d+stN d:Nat):Int) (dSt d) L (dSt d).length L.length 1) (s:=dL4 d) (by omega) ?_ ?_ (by omega) ?_ ?_
 ·intro i L e h Y R hi _ _ ⟨⟨⟨e1,e2,e3,e5⟩,e10⟩,hl,hh⟩ hk
  subst hh
  simp only [ctlK_go] at hk
  have v1:IntKind.i64.wrap (((2*i:Nat):Int)+1)=((2*i+1:Nat):Int):=by rw [wrap_i64 (by omega) (by omega)]; omega
  have v2:IntKind.i64.wrap (((2*i:Nat):Int)+2)=((2*(i+1):Nat):Int):=by rw [wrap_i64 (by omega) (by omega)]; omega
  have d1:decide (((2*i+1:Nat):Int) < (d.chords.length:Nat))=true:=decide_eq_true (by omega)
  have d2:decide (((2*i:Nat):Int) < 12)=true:=decide_eq_true (by omega)
  have hb1:=pkL_bd hd.chords (2*i)
  have hb2:=pkL_bd hd.chords (2*i+1)
  have g1:(d.chords.map U8)[2*i]? = some (U8 (pkL d.chords (2*i))):=by simp [pkL,show 2*i < d.chords.length by omega]
  have g2:(d.chords.map U8)[2*i+1]? = some (U8 (pkL d.chords (2*i+1))):=by simp [pkL,show 2*i+1 < d.chords.length by omega]
  have q1:2*i < d.chords.length:=by omega
  have q2:2*i+1 < d.chords.length:=by omega
  have t1:(pkL d.chords (2*i)).tmod (brN d:Nat)=pkL d.chords (2*i) % (brN d:Nat):=Int.tmod_eq_emod_of_nonneg hb1.1
  have t2:(pkL d.chords (2*i+1)).tmod (brN d:Nat)=pkL d.chords (2*i+1) % (brN d:Nat):=Int.tmod_eq_emod_of_nonneg hb2.1
  have u1:IntKind.i64.wrap (pkL d.chords (2*i))=pkL d.chords (2*i):=wrap_i64 (by omega) (by omega)
  have u2:IntKind.i64.wrap (pkL d.chords (2*i+1))=pkL d.chords (2*i+1):=wrap_i64 (by omega) (by omega)
  have m1:=Int.emod_nonneg (pkL d.chords (2*i)) (b:=((brN d:Nat):Int)) (by omega)
  have m2:=Int.emod_lt_of_pos (pkL d.chords (2*i)) (b:=((brN d:Nat):Int)) (by omega)
  have m3:=Int.emod_nonneg (pkL d.chords (2*i+1)) (b:=((brN d:Nat):Int)) (by omega)
  have m4:=Int.emod_lt_of_pos (pkL d.chords (2*i+1)) (b:=((brN d:Nat):Int)) (by omega)
  have v3:IntKind.i64.wrap (pkL d.chords (2*i) % (brN d:Nat))=pkL d.chords (2*i) % (brN d:Nat):=wrap_i64 (by omega) (by omega)
  have v4:IntKind.i64.wrap (pkL d.chords (2*i+1) % (brN d:Nat))=pkL d.chords (2*i+1) % (brN d:Nat):=wrap_i64 (by omega) (by omega)
  have hn0:¬ (((brN d:Nat):Int)=0):=by omega
  have hcall:=@with_inl c1 c2 c3 c4 d hd ((brN d+stN d:Nat):Int) (dSt d) L hst hl (by omega) 1 (Nat.le_refl _) (pkL d.chords (2*i) % (brN d:Nat)) (pkL d.chords (2*i+1) % (brN d:Nat)) dd nn hn
  have hl2:(wD d L (pkL d.chords (2*i) % (brN d:Nat)) (pkL d.chords (2*i+1) % (brN d:Nat))).length≤24:=wD_24 hl
  change ∀ Q:AV→Heap→Prop,(∀ q5 m5 q8 l,m5≤1→Q (.agg (tpA _ (dSt d).length (wD d L (pkL d.chords (2*i) % (brN d:Nat)) (pkL d.chords (2*i+1) % (brN d:Nat))).length)) (hpT _ (dSt d) (wD d L (pkL d.chords (2*i) % (brN d:Nat)) (pkL d.chords (2*i+1) % (brN d:Nat))) (dSt d).length L.length 1++zzT _ (dSt d).length q5 m5 q8 l))→_ at hcall
  generalize wD d L (pkL d.chords (2*i) % (brN d:Nat)) (pkL d.chords (2*i+1) % (brN d:Nat))=L2 at *
  generalize pkL d.chords (2*i)=V1 at *
  generalize pkL d.chords (2*i+1)=V2 at *
  simp only [hpT,zzT,drT,List.cons_append,List.nil_append] at hcall hk ⊢
  (repeat' first|simp only [il22l4_go,il22l4b,go_sem,e1,e2,e3,e5,e10,v1,v2,v3,v4,u1,u2,d1,d2,g1,g2,q1,q2,t1,t2,hn0]|(with_reducible first|apply wD|apply wT|(apply wM; intro)|(apply wL; intro))|((with_reducible first|refine wA ?_ ?_|refine wE ?_); rfl))
  with_reducible refine hcall _ ?_
  intro q5 m5 q8 l hm5
  (repeat' first|simp only [List.cons_append,List.nil_append,go_sem,e1,e2,e3,e5,e10,v2,frz_mapS]|(with_reducible first|apply wD|apply wT|(apply wM; intro)|(apply wL; intro))|((with_reducible first|refine wA ?_ ?_|refine wE ?_); rfl))
  all_goals (refine hk _ _ ⟨?_,hl2,?_⟩ <;> simp only [go_sem,eD,e1,e2,e3,e5,e10,v2])
 ·intro L e h Y R _ ⟨⟨⟨e1,e2,e3,e5⟩,e10⟩,hl,hh⟩ hk
  subst hh
  have v1:IntKind.i64.wrap (((2*min 6 (d.chords.length / 2):Nat):Int)+1)=((2*min 6 (d.chords.length / 2)+1:Nat):Int):=by rw [wrap_i64 (by omega) (by omega)]; omega
  simp only [hpT] at hk ⊢
  by_cases hq:2*min 6 (d.chords.length / 2)+1 < d.chords.length
  ·have d1:decide (((2*min 6 (d.chords.length / 2)+1:Nat):Int) < (d.chords.length:Nat))=true:=decide_eq_true (by omega)
   have d2:decide (((2*min 6 (d.chords.length / 2):Nat):Int) < 12)=false:=decide_eq_false (by omega)
   generalize 2*min 6 (d.chords.length / 2)=K at *
   (repeat' first|simp only [il22l4_go,il22l4b,go_sem,e1,e2,e3,e5,e10,v1,d1,d2]|(with_reducible first|apply wD|apply wT|(apply wM; intro)|(apply wL; intro))|((with_reducible first|refine wA ?_ ?_|refine wE ?_); rfl))
   all_goals (refine hk _ _ _ ⟨?_,rfl,rfl⟩; simp only [go_sem,eD,e1,e2,e3,e5,e10])
  ·have d1:decide (((2*min 6 (d.chords.length / 2)+1:Nat):Int) < (d.chords.length:Nat))=false:=decide_eq_false (by omega)
   generalize 2*min 6 (d.chords.length / 2)=K at *
   (repeat' first|simp only [il22l4_go,il22l4b,go_sem,e1,e2,e3,e5,e10,v1,d1]|(with_reducible first|apply wD|apply wT|(apply wM; intro)|(apply wL; intro))|((with_reducible first|refine wA ?_ ?_|refine wE ?_); rfl))
   all_goals (refine hk _ _ _ ⟨?_,rfl,rfl⟩; simp only [go_sem,eD,e1,e2,e3,e5,e10])
 ·exact ⟨he,dL4_24 d,rfl⟩
 ·intro x e h ⟨h1,h2,h3⟩
  rw [foldC_pure (fun i L=>wD d L (pkL d.chords (2*i) % (brN d:Nat)) (pkL d.chords (2*i+1) % (brN d:Nat))),← List.range_eq_range'] at h3
  subst h2 h3
  exact hR _ h1
end
end Go.Proofs.Ytbibdnlbpjnieaa
namespace Go.Proofs.Ytbibdnlbpjnieaa
open Go Go.Abs
def hpU (p5 n5 p8:Nat) (l0:Lk) (N:Int) (st:List Bool) (L:List Lk) (s q mr:Nat):Heap:=hpT N st L s q mr++zzT N s p5 n5 p8 l0
section
variable (p5 n5 p8:Nat) (hn5:n5≤1) (l0:Lk)
include hn5
theorem with_inl7 (c1 c2 c3 c4:Bool) (d:Dr) (hd:drP d) (N:Int) (st:List Bool) (L:List Lk) (hst:(st.length:Int)=N) (hL:L.length≤24) (hN:N≤12) (mr:Nat) (hmr:mr≤1) (a b:Int) (dd nn:Nat) (hn:100 < nn) (Q:AV→Heap→Prop)
  (hQ:∀ q5 m5 q8 l,m5≤1→Q (.agg (tpA N st.length (wth d N st L a b).length)) (hpU p5 n5 p8 l0 N st (wth d N st L a b) st.length L.length mr++zzT N st.length q5 m5 q8 l)) :
  oB (inl Try.prog pol (ans Try.prog pol) nn (dd+1) (.fn 42) [.t (drT c1 c2 c3 c4 d),.agg (tpA N st.length L.length),.t (I a),.t (I b)] (hpU p5 n5 p8 l0 N st L st.length L.length mr)) Q:=by
 have k1:=pick_ans c3 d.pers L.length hd.pers
 have k2:=pick_ans c4 d.delays L.length hd.delays
 have b1:=pkL_bd hd.pers L.length
 have b2:=pkL_bd hd.delays L.length
 have t1:(pkL d.pers L.length).tmod 20=pkL d.pers L.length % 20:=Int.tmod_eq_emod_of_nonneg b1.1
 have t2:(pkL d.delays L.length).tmod 50=pkL d.delays L.length % 50:=Int.tmod_eq_emod_of_nonneg b2.1
 have v1:IntKind.i64.wrap (pkL d.pers L.length % 20)=pkL d.pers L.length % 20:=wrap_i64 (by omega) (by omega)
 have v2:IntKind.i64.wrap (pkL d.delays L.length % 50)=pkL d.delays L.length % 50:=wrap_i64 (by omega) (by omega)
 have v3:IntKind.i64.wrap (1+pkL d.pers L.length % 20)=1+pkL d.pers L.length % 20:=wrap_i64 (by omega) (by omega)
 have k3:=link_ans false false ⟨N,st,L⟩ (mkK d L.length a b) hst
 simp only [mkK] at k3
 have hl1:((st.map B).map AV.t).length=st.length:=by simp
 have hl2:((L.map encK).map AV.t).length=L.length:=by simp
 have hw:wth d N st L a b=if L.length=24∨lkR ⟨N,st,L⟩ (mkK d L.length a b)=false then L else if jnL L a b=true then L else L++[mkK d L.length a b]:=rfl
 have hroom:(L.length+1)*32≤roomB:=ap_room (by omega) (by omega)
 by_cases h24:L.length=24
 ·have d1:decide ((L.length:Int)=24)=true:=decide_eq_true (by omega)
  rw [hw,if_pos (.inl h24)] at hQ
  simp only [hpU,hpT,zzT,List.cons_append,List.nil_append] at hQ ⊢
  with_reducible refine oB_inl il42_eq ?_ ?_
  ·exact Nat.le_of_ble_eq_true rfl
  (repeat' first|simp only [il42c,go_sem,k1,k2,t1,t2,v1,v2,v3,d1,hmr,hn5,hl1,hl2]|(with_reducible first|apply wD|apply wT|(apply wM; intro)|(apply wL; intro))|((with_reducible first|refine wA ?_ ?_|refine wE ?_); rfl))
  all_goals exact hQ _ _ _ (mkK d L.length a b) (by omega)
 have d1:decide ((L.length:Int)=24)=false:=decide_eq_false (by omega)
 cases hlr:lkR ⟨N,st,L⟩ (mkK d L.length a b) with
 | false =>
  rw [hw,if_pos (.inr hlr)] at hQ
  simp only [mkK] at hlr
  rw [hlr] at k3
  simp only [hpU,hpT,zzT,List.cons_append,List.nil_append] at hQ ⊢
  with_reducible refine oB_inl il42_eq ?_ ?_
  ·exact Nat.le_of_ble_eq_true rfl
  (repeat' first|simp only [il42c,go_sem,k1,k2,t1,t2,v1,v2,v3,k3,d1,hmr,hn5,hl1,hl2]|(with_reducible first|apply wD|apply wT|(apply wM; intro)|(apply wL; intro))|((with_reducible first|refine wA ?_ ?_|refine wE ?_); rfl))
  all_goals exact hQ _ _ _ (mkK d L.length a b) (by omega)
 | true =>
  rw [hw,if_neg (by rintro (h|h); exact h24 h; rw [hlr] at h; cases h)] at hQ
  have hlr':=hlr
  simp only [mkK] at hlr'
  rw [hlr'] at k3
  have hpush:((L.map encK).map AV.t)++[.t (lkT (mkK d L.length a b))]=(((L++[mkK d L.length a b]).map encK).map AV.t):=by simp [encK]
  simp only [mkK] at hpush
  simp only [hpU,hpT,zzT,List.cons_append,List.nil_append] at hQ ⊢
  with_reducible refine oB_inl il42_eq ?_ ?_
  ·exact Nat.le_of_ble_eq_true rfl
  (repeat' first|simp only [il42c,go_sem,k1,k2,t1,t2,v1,v2,v3,k3,d1,hmr,hn5,hl1,hl2]|(with_reducible first|apply wD|apply wT|(apply wM; intro)|(apply wL; intro))|((with_reducible first|refine wA ?_ ?_|refine wE ?_); rfl))
  refine loop_range L encK (step:=fun i x (_:Unit)=>if (decide (x.a=a∧x.b=b∨x.a=b∧x.b=a))=true then Ctl.out true else Ctl.go ()) (fin:=fun _=>false)
   (St:=fun i _ e h=>(e 2=.t (I a)∧e 3=.t (I b)∧e 5=.ref 7 1 0 0∧e 8=.ref 8 1 0 0∧e 9=.t (I (L.length:Nat))∧e 10=.ref 9 1 0 0∧e 11=.t (I (i:Nat)))∧h=[.row 3 [.t zT3] 0,.row 1 ((st.map B).map .t) 0,.row 4 ((L.map encK).map .t) 0,.row 3 [.agg (tpA N st.length L.length)] mr,.row 3 [.agg (tpA N st.length p5)] n5,.row 3 [.agg (tpA N st.length p8)] 1,.row 4 [.t (lkT l0)] 1,.row 3 [.agg (tpA N st.length L.length)] 0,.row 3 [.t zT3] 0,.row 4 [.t (lkT (mkK d L.length a b))] 1])
   (Ex:=fun r x e h=>(e 8=.ref 8 1 0 0∧(r=false→e 5=.ref 7 1 0 0∧e 10=.ref 9 1 0 0))∧(r=true∧x=.ret∧h=[.row 3 [.t zT3] 0,.row 1 ((st.map B).map .t) 0,.row 4 ((L.map encK).map .t) 0,.row 3 [.agg (tpA N st.length L.length)] mr,.row 3 [.agg (tpA N st.length p5)] n5,.row 3 [.agg (tpA N st.length p8)] 1,.row 4 [.t (lkT l0)] 1,.row 3 [.agg (tpA N st.length L.length)] 0,.row 3 [.agg (tpA N st.length L.length)] 1,.row 4 [.t (lkT (mkK d L.length a b))] 1]∨r=false∧x=.exit 0∧h=[.row 3 [.t zT3] 0,.row 1 ((st.map B).map .t) 0,.row 4 ((L.map encK).map .t) 0,.row 3 [.agg (tpA N st.length L.length)] mr,.row 3 [.agg (tpA N st.length p5)] n5,.row 3 [.agg (tpA N st.length p8)] 1,.row 4 [.t (lkT l0)] 1,.row 3 [.agg (tpA N st.length L.length)] 0,.row 3 [.t zT3] 0,.row 4 [.t (lkT (mkK d L.length a b))] 1])) (s:=()) (by omega) ?_ ?_ (by omega) ?_ ?_
  ·intro i x _ e h Y R' hm hi hx hget hlt hw' ⟨hs,hh⟩ hk
   subst hh
   have k4:=joins_ans x a b
   have gx:((L.map encK).map AV.t)[i]? = some (.t (lkT x)):=map_get (enc:=encK) hx
   by_cases hj:(x.a=a∧x.b=b∨x.a=b∧x.b=a)
   ·have dj:=decide_eq_true hj
    rw [dj] at k4
    rw [if_pos dj,ctlK_out] at hk
    simp only [mkK] at hk ⊢
    (repeat' first|simp only [il42l0_go,il42l0b,go_sem,hs,hlt,gx,hl2,k4,hi,hmr,hn5]|(with_reducible first|apply wD|apply wT|(apply wM; intro)|(apply wL; intro))|((with_reducible first|refine wA ?_ ?_|refine wE ?_); rfl))
    all_goals (refine hk _ _ _ ⟨⟨?_,by simp⟩,.inl ⟨by simp,rfl,rfl⟩⟩; simp only [go_sem,hs])
   ·have dj:=decide_eq_false hj
    rw [dj] at k4
    rw [if_neg (by rw [dj]; simp),ctlK_go] at hk
    simp only [mkK] at hk ⊢
    (repeat' first|simp only [il42l0_go,il42l0b,go_sem,hs,hlt,hw',gx,hl2,k4,hi,hmr,hn5]|(with_reducible first|apply wD|apply wT|(apply wM; intro)|(apply wL; intro))|((with_reducible first|refine wA ?_ ?_|refine wE ?_); rfl))
    all_goals (refine hk _ _ ⟨?_,rfl⟩; simp only [go_sem,hs,hw'])
  ·intro _ e h Y R' hlt ⟨hs,hh⟩ hk
   subst hh
   simp only [mkK] at hk ⊢
   (repeat' first|simp only [il42l0_go,il42l0b,go_sem,hs,hlt]|(with_reducible first|apply wD|apply wT|(apply wM; intro)|(apply wL; intro))|((with_reducible first|refine wA ?_ ?_|refine wE ?_); rfl))
   all_goals (refine hk _ _ _ ⟨⟨?_,fun _=>?_⟩,.inr ⟨by simp,rfl,rfl⟩⟩ <;> simp only [go_sem,hs,and_self])
  ·refine ⟨?_,rfl⟩
   simp only [go_sem]
  ·intro x e h ⟨⟨h8,h5⟩,hx⟩
   have hfold:∀ (l:List Lk) (k:Nat),foldC (fun i (x:Lk) (_:Unit)=>if (decide (x.a=a∧x.b=b∨x.a=b∧x.b=a))=true then Ctl.out true else Ctl.go ()) (fun _=>false) k l ()=jnL l a b:=by
    intro l
    induction l with
    | nil=>intro k; rfl
    | cons y l ih =>
     intro k
     by_cases hy:(decide (y.a=a∧y.b=b∨y.a=b∧y.b=a))=true
     ·rw [foldC_out (r:=true) (if_pos hy)]
      simp only [jnL,List.any_cons,hy,Bool.true_or]
     ·rw [foldC_go (s':=()) (if_neg hy),ih]
      have hy':(decide (y.a=a∧y.b=b∨y.a=b∧y.b=a))=false:=by simpa using hy
      simp only [jnL,List.any_cons,hy',Bool.false_or]
   rw [hfold] at hx h5
   rcases hx with ⟨hb,rfl,rfl⟩|⟨hb,rfl,rfl⟩
   ·rw [hb,if_pos rfl] at hQ
    (repeat' first|simp only [il42c,go_sem,h8]|(with_reducible first|apply wD|apply wT|(apply wM; intro)|(apply wL; intro))|((with_reducible first|refine wA ?_ ?_|refine wE ?_); rfl))
    all_goals exact hQ _ _ _ (mkK d L.length a b) (by omega)
   ·rw [hb,if_neg (by simp)] at hQ
    obtain ⟨h5,h10⟩:=h5 hb
    simp only [List.length_append,List.length_cons,List.length_nil,mkK] at hQ
    rw [← hpush] at hQ
    (repeat' first|simp only [il42c,go_sem,h8,h5,h10,hl2,hroom,hmr,hn5]|(with_reducible first|apply wD|apply wT|(apply wM; intro)|(apply wL; intro))|((with_reducible first|refine wA ?_ ?_|refine wE ?_); rfl))
    all_goals exact hQ _ _ _ (mkK d L.length a b) (by omega)
variable (c1 c2 c3 c4:Bool) (d:Dr) (hd:drP d)
include hd
theorem topu_l3 (dd nn:Nat) (hn:100 < nn) (R:Xit→FEnv→Heap→Prop) (e:FEnv) (he:eD c1 c2 c3 c4 d e∧e 4=.t (I (stN d:Nat))∧e 9=.t (I 0))
  (hR:∀ e,eD c1 c2 c3 c4 d e→R (.exit 6) e (hpU p5 n5 p8 l0 ((brN d+stN d:Nat):Int) (dSt d) (dL4 d) (dSt d).length (dL4 d).length 1)) :
  wpIter 7 (some [1,2,3,4,5,9]) (wc Try.prog pol (ans Try.prog pol) (inl Try.prog pol (ans Try.prog pol) nn (dd+1)) nn 22 il22l3) R nn e (hpU p5 n5 p8 l0 ((brN d+stN d:Nat):Int) (dSt d) (dL3 d) (dSt d).length (dL3 d).length 1):=by
 obtain ⟨b1,b2,b3⟩:=brN_bd hd
 obtain ⟨s1,s2,s3⟩:=stN_bd hd
 have hst:=hst_d d hd
 refine loop_upto (stN d) (step:=fun s (L:List Lk)=>.go (if 0 < pkL d.homes (2*s+1) % 3 then wD d L ((brN d+s:Nat):Int) (pkL d.homes (2*s+1) % (brN d:Nat)) else L)) (fin:=id)
  (St:=fun i L e h=>(eD c1 c2 c3 c4 d e∧e 4=.t (I (stN d:Nat))∧e 9=.t (I (i:Nat)))∧L.length≤24∧h=hpU p5 n5 p8 l0 ((brN d+stN d:Nat):Int) (dSt d) L (dSt d).length L.length 1)
  (Ex:=fun L x e h=>(eD c1 c2 c3 c4 d e)∧x=.exit 6∧h=hpU p5 n5 p8 l0 ((brN d+stN d:Nat):Int) (dSt d) L (dSt d).length L.length 1) (s:=dL3 d) (by omega) ?_ ?_ (by omega) ?_ ?_
 ·intro i L e h Y R hi hlt hw ⟨⟨⟨e1,e2,e3,e5⟩,e4,e9⟩,hl,hh⟩ hk
  subst hh
  simp only [ctlK_go] at hk
  have v1:IntKind.i64.wrap (((brN d:Nat):Int)+(i:Nat))=((brN d+i:Nat):Int):=by rw [wrap_i64 (by omega) (by omega)]; omega
  have v2:IntKind.i64.wrap (2*((i:Nat):Int))=((2*i:Nat):Int):=by rw [wrap_i64 (by omega) (by omega)]; omega
  have v4:IntKind.i64.wrap (((2*i:Nat):Int)+1)=((2*i+1:Nat):Int):=by rw [wrap_i64 (by omega) (by omega)]; omega
  have k1:=pick_ans c2 d.homes (2*i+1) hd.homes
  have hb:=pkL_bd hd.homes (2*i+1)
  have t1:(pkL d.homes (2*i+1)).tmod (brN d:Nat)=pkL d.homes (2*i+1) % (brN d:Nat):=Int.tmod_eq_emod_of_nonneg hb.1
  have t2:(pkL d.homes (2*i+1)).tmod 3=pkL d.homes (2*i+1) % 3:=Int.tmod_eq_emod_of_nonneg hb.1
  have hm0:=Int.emod_nonneg (pkL d.homes (2*i+1)) (b:=((brN d:Nat):Int)) (by omega)
  have hm1:=Int.emod_lt_of_pos (pkL d.homes (2*i+1)) (b:=((brN d:Nat):Int)) (by omega)
  have v3:IntKind.i64.wrap (pkL d.homes (2*i+1) % (brN d:Nat))=pkL d.homes (2*i+1) % (brN d:Nat):=wrap_i64 (by omega) (by omega)
  have v5:IntKind.i64.wrap (pkL d.homes (2*i+1) % 3)=pkL d.homes (2*i+1) % 3:=wrap_i64 (by omega) (by omega)
  have hn0:¬ (((brN d:Nat):Int)=0):=by omega
  have hcall:=@with_inl7 p5 n5 p8 hn5 l0 c1 c2 c3 c4 d hd ((brN d+stN d:Nat):Int) (dSt d) L hst hl (by omega) 1 (Nat.le_refl _) ((brN d+i:Nat):Int) (pkL d.homes (2*i+1) % (brN d:Nat)) dd nn hn
  have hl2:(wD d L ((brN d+i:Nat):Int) (pkL d.homes (2*i+1) % (brN d:Nat))).length≤24:=wD_24 hl
  change ∀ Q:AV→Heap→Prop,(∀ q5 m5 q8 l,m5≤1→Q (.agg (tpA _ (dSt d).length (wD d L ((brN d+i:Nat):Int) (pkL d.homes (2*i+1) % (brN d:Nat))).length)) (hpU p5 n5 p8 l0 _ (dSt d) (wD d L ((brN d+i:Nat):Int) (pkL d.homes (2*i+1) % (brN d:Nat))) (dSt d).length L.length 1++zzT _ (dSt d).length q5 m5 q8 l))→_ at hcall
  generalize wD d L ((brN d+i:Nat):Int) (pkL d.homes (2*i+1) % (brN d:Nat))=L2 at *
  generalize pkL d.homes (2*i+1)=V at *
  simp only [hpU,hpT,zzT,drT,List.cons_append,List.nil_append] at hcall hk ⊢
  by_cases hq:0 < V % 3
  ·have d1:=decide_eq_true hq
   rw [if_pos hq] at hk
   (repeat' first|simp only [il22l3_go,il22l3b,go_sem,e1,e2,e3,e4,e5,e9,hlt,hw,v1,v2,v3,v4,v5,k1,t1,t2,hn0,d1]|(with_reducible first|apply wD|apply wT|(apply wM; intro)|(apply wL; intro))|((with_reducible first|refine wA ?_ ?_|refine wE ?_); rfl))
   with_reducible refine hcall _ ?_
   intro q5 m5 q8 l hm5
   (repeat' first|simp only [List.cons_append,List.nil_append,go_sem,e1,e2,e3,e4,e5,e9,hw,frz_mapS]|(with_reducible first|apply wD|apply wT|(apply wM; intro)|(apply wL; intro))|((with_reducible first|refine wA ?_ ?_|refine wE ?_); rfl))
   all_goals (refine hk _ _ ⟨?_,hl2,?_⟩ <;> simp only [go_sem,eD,e1,e2,e3,e4,e5,e9,hw])
  ·have d1:=decide_eq_false hq
   rw [if_neg hq] at hk
   (repeat' first|simp only [il22l3_go,il22l3b,go_sem,e1,e2,e3,e4,e5,e9,hlt,hw,v1,v2,v3,v4,v5,k1,t1,t2,hn0,d1,frz_mapS]|(with_reducible first|apply wD|apply wT|(apply wM; intro)|(apply wL; intro))|((with_reducible first|refine wA ?_ ?_|refine wE ?_); rfl))
   all_goals (refine hk _ _ ⟨?_,hl,?_⟩ <;> simp only [go_sem,eD,e1,e2,e3,e4,e5,e9,hw])
 ·intro L e h Y R hlt ⟨⟨⟨e1,e2,e3,e5⟩,e4,e9⟩,hl,hh⟩ hk
  subst hh
  simp only [hpU,hpT,zzT,List.cons_append,List.nil_append] at hk ⊢
  (repeat' first|simp only [il22l3_go,il22l3b,go_sem,e1,e2,e3,e4,e5,e9,hlt]|(with_reducible first|apply wD|apply wT|(apply wM; intro)|(apply wL; intro))|((with_reducible first|refine wA ?_ ?_|refine wE ?_); rfl))
  all_goals (refine hk _ _ _ ⟨?_,rfl,rfl⟩; simp only [go_sem,eD,e1,e2,e3,e4,e5,e9])
 ·exact ⟨he,dL3_24 d,rfl⟩
 ·intro x e h ⟨h1,h2,h3⟩
  rw [foldC_pure (fun s L=>if 0 < pkL d.homes (2*s+1) % 3 then wD d L ((brN d+s:Nat):Int) (pkL d.homes (2*s+1) % (brN d:Nat)) else L),← List.range_eq_range'] at h3
  subst h2 h3
  exact hR _ h1
theorem topu_l4 (dd nn:Nat) (hn:100 < nn) (R:Xit→FEnv→Heap→Prop) (e:FEnv) (he:eD c1 c2 c3 c4 d e∧e 10=.t (I 0))
  (hR:∀ e,eD c1 c2 c3 c4 d e→R (.exit 8) e (hpU p5 n5 p8 l0 ((brN d+stN d:Nat):Int) (dSt d) (dL5 d) (dSt d).length (dL5 d).length 1)) :
  wpIter 7 (some [1,2,3,5,10]) (wc Try.prog pol (ans Try.prog pol) (inl Try.prog pol (ans Try.prog pol) nn (dd+1)) nn 22 il22l4) R nn e (hpU p5 n5 p8 l0 ((brN d+stN d:Nat):Int) (dSt d) (dL4 d) (dSt d).length (dL4 d).length 1):=by
 obtain ⟨b1,b2,b3⟩:=brN_bd hd
 obtain ⟨s1,s2,s3⟩:=stN_bd hd
 have hst:=hst_d d hd
 have hch:=hd.chords.2
 refine loop_upto (min 6 (d.chords.length / 2)) (step:=fun i (L:List Lk)=>.go (wD d L (pkL d.chords (2*i) % (brN d:Nat)) (pkL d.chords (2*i+1) % (brN d:Nat)))) (fin:=id)
  (St:=fun i L e h=>(eD c1 c2 c3 c4 d e∧e 10=.t (I ((2*i:Nat):Int)))∧L.length≤24∧h=hpU p5 n5 p8 l0 ((brN d+stN d:Nat):Int) (dSt d) L (dSt d).length L.length 1)
  (Ex:=fun L x e h=>(eD c1 c2 c3 c4 d e)∧x=.exit 8∧h=hpU p5 n5 p8 l0 ((brN d+stN d:Nat):Int) (dSt d) L (dSt d).length L.length 1) (s:=dL4 d) (by omega) ?_ ?_ (by omega) ?_ ?_
 ·intro i L e h Y R hi _ _ ⟨⟨⟨e1,e2,e3,e5⟩,e10⟩,hl,hh⟩ hk
  subst hh
  simp only [ctlK_go] at hk
  have v1:IntKind.i64.wrap (((2*i:Nat):Int)+1)=((2*i+1:Nat):Int):=by rw [wrap_i64 (by omega) (by omega)]; omega
  have v2:IntKind.i64.wrap (((2*i:Nat):Int)+2)=((2*(i+1):Nat):Int):=by rw [wrap_i64 (by omega) (by omega)]; omega
  have d1:decide (((2*i+1:Nat):Int) < (d.chords.length:Nat))=true:=decide_eq_true (by omega)
  have d2:decide (((2*i:Nat):Int) < 12)=true:=decide_eq_true (by omega)
  have hb1:=pkL_bd hd.chords (2*i)
  have hb2:=pkL_bd hd.chords (2*i+1)
  have g1:(d.chords.map U8)[2*i]? = some (U8 (pkL d.chords (2*i))):=by simp [pkL,show 2*i < d.chords.length by omega]
  have g2:(d.chords.map U8)[2*i+1]? = some (U8 (pkL d.chords (2*i+1))):=by simp [pkL,show 2*i+1 < d.chords.length by omega]
  have q1:2*i < d.chords.length:=by omega
  have q2:2*i+1 < d.chords.length:=by omega
  have t1:(pkL d.chords (2*i)).tmod (brN d:Nat)=pkL d.chords (2*i) % (brN d:Nat):=Int.tmod_eq_emod_of_nonneg hb1.1
  have t2:(pkL d.chords (2*i+1)).tmod (brN d:Nat)=pkL d.chords (2*i+1) % (brN d:Nat):=Int.tmod_eq_emod_of_nonneg hb2.1
  have u1:IntKind.i64.wrap (pkL d.chords (2*i))=pkL d.chords (2*i):=wrap_i64 (by omega) (by omega)
  have u2:IntKind.i64.wrap (pkL d.chords (2*i+1))=pkL d.chords (2*i+1):=wrap_i64 (by omega) (by omega)
  have m1:=Int.emod_nonneg (pkL d.chords (2*i)) (b:=((brN d:Nat):Int)) (by omega)
  have m2:=Int.emod_lt_of_pos (pkL d.chords (2*i)) (b:=((brN d:Nat):Int)) (by omega)
  have m3:=Int.emod_nonneg (pkL d.chords (2*i+1)) (b:=((brN d:Nat):Int)) (by omega)
  have m4:=Int.emod_lt_of_pos (pkL d.chords (2*i+1)) (b:=((brN d:Nat):Int)) (by omega)
  have v3:IntKind.i64.wrap (pkL d.chords (2*i) % (brN d:Nat))=pkL d.chords (2*i) % (brN d:Nat):=wrap_i64 (by omega) (by omega)
  have v4:IntKind.i64.wrap (pkL d.chords (2*i+1) % (brN d:Nat))=pkL d.chords (2*i+1) % (brN d:Nat):=wrap_i64 (by omega) (by omega)
  have hn0:¬ (((brN d:Nat):Int)=0):=by omega
  have hcall:=@with_inl7 p5 n5 p8 hn5 l0 c1 c2 c3 c4 d hd ((brN d+stN d:Nat):Int) (dSt d) L hst hl (by omega) 1 (Nat.le_refl _) (pkL d.chords (2*i) % (brN d:Nat)) (pkL d.chords (2*i+1) % (brN d:Nat)) dd nn hn
  have hl2:(wD d L (pkL d.chords (2*i) % (brN d:Nat)) (pkL d.chords (2*i+1) % (brN d:Nat))).length≤24:=wD_24 hl
  change ∀ Q:AV→Heap→Prop,(∀ q5 m5 q8 l,m5≤1→Q (.agg (tpA _ (dSt d).length (wD d L (pkL d.chords (2*i) % (brN d:Nat)) (pkL d.chords (2*i+1) % (brN d:Nat))).length)) (hpU p5 n5 p8 l0 _ (dSt d) (wD d L (pkL d.chords (2*i) % (brN d:Nat)) (pkL d.chords (2*i+1) % (brN d:Nat))) (dSt d).length L.length 1++zzT _ (dSt d).length q5 m5 q8 l))→_ at hcall
  generalize wD d L (pkL d.chords (2*i) % (brN d:Nat)) (pkL d.chords (2*i+1) % (brN d:Nat))=L2 at *
  generalize pkL d.chords (2*i)=V1 at *
  generalize pkL d.chords (2*i+1)=V2 at *
  simp only [hpU,hpT,zzT,drT,List.cons_append,List.nil_append] at hcall hk ⊢
  (repeat' first|simp only [il22l4_go,il22l4b,go_sem,e1,e2,e3,e5,e10,v1,v2,v3,v4,u1,u2,d1,d2,g1,g2,q1,q2,t1,t2,hn0]|(with_reducible first|apply wD|apply wT|(apply wM; intro)|(apply wL; intro))|((with_reducible first|refine wA ?_ ?_|refine wE ?_); rfl))
  with_reducible refine hcall _ ?_
  intro q5 m5 q8 l hm5
  (repeat' first|simp only [List.cons_append,List.nil_append,go_sem,e1,e2,e3,e5,e10,v2,frz_mapS]|(with_reducible first|apply wD|apply wT|(apply wM; intro)|(apply wL; intro))|((with_reducible first|refine wA ?_ ?_|refine wE ?_); rfl))
  all_goals (refine hk _ _ ⟨?_,hl2,?_⟩ <;> simp only [go_sem,eD,e1,e2,e3,e5,e10,v2])
 ·intro L e h Y R _ ⟨⟨⟨e1,e2,e3,e5⟩,e10⟩,hl,hh⟩ hk
  subst hh
  have v1:IntKind.i64.wrap (((2*min 6 (d.chords.length / 2):Nat):Int)+1)=((2*min 6 (d.chords.length / 2)+1:Nat):Int):=by rw [wrap_i64 (by omega) (by omega)]; omega
  simp only [hpU,hpT,zzT,List.cons_append,List.nil_append] at hk ⊢
  by_cases hq:2*min 6 (d.chords.length / 2)+1 < d.chords.length
  ·have d1:decide (((2*min 6 (d.chords.length / 2)+1:Nat):Int) < (d.chords.length:Nat))=true:=decide_eq_true (by omega)
   have d2:decide (((2*min 6 (d.chords.length / 2):Nat):Int) < 12)=false:=decide_eq_false (by omega)
   generalize 2*min 6 (d.chords.length / 2)=K at *
   (repeat' first|simp only [il22l4_go,il22l4b,go_sem,e1,e2,e3,e5,e10,v1,d1,d2]|(with_reducible first|apply wD|apply wT|(apply wM; intro)|(apply wL; intro))|((with_reducible first|refine wA ?_ ?_|refine wE ?_); rfl))
   all_goals (refine hk _ _ _ ⟨?_,rfl,rfl⟩; simp only [go_sem,eD,e1,e2,e3,e5,e10])
  ·have d1:decide (((2*min 6 (d.chords.length / 2)+1:Nat):Int) < (d.chords.length:Nat))=false:=decide_eq_false (by omega)
   generalize 2*min 6 (d.chords.length / 2)=K at *
   (repeat' first|simp only [il22l4_go,il22l4b,go_sem,e1,e2,e3,e5,e10,v1,d1]|(with_reducible first|apply wD|apply wT|(apply wM; intro)|(apply wL; intro))|((with_reducible first|refine wA ?_ ?_|refine wE ?_); rfl))
   all_goals (refine hk _ _ _ ⟨?_,rfl,rfl⟩; simp only [go_sem,eD,e1,e2,e3,e5,e10])
 ·exact ⟨he,dL4_24 d,rfl⟩
 ·intro x e h ⟨h1,h2,h3⟩
  rw [foldC_pure (fun i L=>wD d L (pkL d.chords (2*i) % (brN d:Nat)) (pkL d.chords (2*i+1) % (brN d:Nat))),← List.range_eq_range'] at h3
  subst h2 h3
  exact hR _ h1
end
end Go.Proofs.Ytbibdnlbpjnieaa
namespace Go.Proofs.Ytbibdnlbpjnieaa
open Go Go.Abs
theorem Topo_ans (c1 c2 c3 c4:Bool) (d:Dr) (hd:drP d):ans Try.prog pol 22 [drT c1 c2 c3 c4 d]=some (tpT false false (dTopo d)):=by
 obtain ⟨b1,b2,b3⟩:=brN_bd hd
 obtain ⟨s1,s2,s3⟩:=stN_bd hd
 have hbr:=hd.br
 have hsn:=hd.st
 have t1:d.br.tmod 6=d.br % 6:=Int.tmod_eq_emod_of_nonneg hbr.1
 have t2:d.st.tmod 5=d.st % 5:=Int.tmod_eq_emod_of_nonneg hsn.1
 have t3:d.br.tmod 2=d.br % 2:=Int.tmod_eq_emod_of_nonneg hbr.1
 have w1:IntKind.u8.wrap (d.br % 6)=d.br % 6:=by rw [wrap_u8]; omega
 have w2:IntKind.u8.wrap (d.st % 5)=d.st % 5:=by rw [wrap_u8]; omega
 have w3:IntKind.u8.wrap (d.br % 2)=d.br % 2:=by rw [wrap_u8]; omega
 have v1:IntKind.i64.wrap (d.br % 6)=d.br % 6:=wrap_i64 (by omega) (by omega)
 have v2:IntKind.i64.wrap (d.st % 5)=d.st % 5:=wrap_i64 (by omega) (by omega)
 have v3:IntKind.i64.wrap (1+d.br % 6)=((brN d:Nat):Int):=by rw [wrap_i64 (by omega) (by omega)]; omega
 have v4:IntKind.i64.wrap (2+d.st % 5)=((stN d:Nat):Int):=by rw [wrap_i64 (by omega) (by omega)]; omega
 have v5:IntKind.i64.wrap (((brN d:Nat):Int)+(stN d:Nat))=((brN d+stN d:Nat):Int):=by rw [wrap_i64 (by omega) (by omega)]; omega
 have v6:IntKind.i64.wrap (((brN d:Nat):Int) - 1)=((brN d - 1:Nat):Int):=by rw [wrap_i64 (by omega) (by omega)]; omega
 obtain ⟨nn,h2000⟩:∃ nn,2000 < nn:=⟨2001,by omega⟩
 have hn:100 < nn:=by omega
 have hst:=hst_d d hd
 have hl3:=dL2_24 d
 have hcall:=@with_inl c1 c2 c3 c4 d hd ((brN d+stN d:Nat):Int) (dSt d) (dL2 d) hst hl3 (by omega) 1 (Nat.le_refl _) ((brN d - 1:Nat):Int) 0 4 nn hn
 refine ans_go nn 5 il22_eq (Nat.le_of_ble_eq_true rfl) ?_
 simp only [il22c]
 (repeat' first|simp only [List.cons_append,List.nil_append,go_sem,t1,t2,w1,w2,v1,v2,v3,v4,v5]|(with_reducible first|apply wD|apply wT|(apply wM; intro)|(apply wL; intro))|((with_reducible first|refine wA ?_ ?_|refine wE ?_); rfl))
 refine topo_l0 c1 c2 c3 c4 d hd 5 nn hn _ _ (by simp only [go_sem,eD]) ?_
 intro e ⟨⟨e1,e2,e3,e5⟩,e4⟩
 simp only [hpT]
 (repeat' first|simp only [List.cons_append,List.nil_append,go_sem,e1,e2,e3,e4,e5]|(with_reducible first|apply wD|apply wT|(apply wM; intro)|(apply wL; intro))|((with_reducible first|refine wA ?_ ?_|refine wE ?_); rfl))
 refine topo_l1 c1 c2 c3 c4 d hd 4 nn hn _ _ (by simp only [go_sem,eD,e1,e2,e3,e4,e5]) ?_
 clear e1 e2 e3 e5 e4
 intro e ⟨⟨e1,e2,e3,e5⟩,e4⟩
 simp only [hpT]
 (repeat' first|simp only [List.cons_append,List.nil_append,go_sem,e1,e2,e3,e4,e5]|(with_reducible first|apply wD|apply wT|(apply wM; intro)|(apply wL; intro))|((with_reducible first|refine wA ?_ ?_|refine wE ?_); rfl))
 refine topo_l2 c1 c2 c3 c4 d hd 4 nn hn _ _ (by simp only [go_sem,eD,e1,e2,e3,e4,e5]) ?_
 clear e1 e2 e3 e5 e4
 intro e ⟨⟨e1,e2,e3,e5⟩,e4⟩
 have hfin:tpT false false (dTopo d)=.agg [I ((brN d+stN d:Nat):Int),.sl false 1 ((dSt d).map B),.sl false 4 ((dL5 d).map encK)]:=rfl
 have hlS:((dSt d).map B).map AV.t=((dSt d).map B).map AV.t:=rfl
 have hl1:(((dSt d).map B).map AV.t).length=(dSt d).length:=by simp
 have hl2:(((dL5 d).map encK).map AV.t).length=(dL5 d).length:=by simp
 rw [hfin]
 have tail:¬ (2 < brN d∧d.br % 2=0)→dL3 d=dL2 d:=fun h=>by rw [dL3,if_neg h]
 by_cases hb2:2 < brN d
 ·have d1:decide (2 < ((brN d:Nat):Int))=true:=decide_eq_true (by omega)
  by_cases hm:d.br % 2=0
  ·have d2:=decide_eq_true hm
   have h3:dL3 d=wD d (dL2 d) ((brN d - 1:Nat):Int) 0:=by rw [dL3,if_pos ⟨hb2,hm⟩]
   change ∀ Q:AV→Heap→Prop,(∀ q5 m5 q8 l,m5≤1→Q (.agg (tpA _ (dSt d).length (wD d (dL2 d) ((brN d - 1:Nat):Int) 0).length)) (hpT _ (dSt d) (wD d (dL2 d) ((brN d - 1:Nat):Int) 0) (dSt d).length (dL2 d).length 1++zzT _ (dSt d).length q5 m5 q8 l))→_ at hcall
   rw [← h3] at hcall
   simp only [hpT,zzT,drT,List.cons_append,List.nil_append] at hcall ⊢
   (repeat' first|simp only [List.cons_append,List.nil_append,go_sem,e1,e2,e3,e4,e5,d1,d2,t3,w3,v6]|(with_reducible first|apply wD|apply wT|(apply wM; intro)|(apply wL; intro))|((with_reducible first|refine wA ?_ ?_|refine wE ?_); rfl))
   with_reducible refine hcall _ ?_
   intro q5 m5 q8 l hm5
   (repeat' first|simp only [List.cons_append,List.nil_append,go_sem,e1,e2,e3,e4,e5]|(with_reducible first|apply wD|apply wT|(apply wM; intro)|(apply wL; intro))|((with_reducible first|refine wA ?_ ?_|refine wE ?_); rfl))
   have hheap:([.row 3 [.t zT3] 0,.row 1 (((dSt d).map B).map .t) 0,.row 4 (((dL3 d).map encK).map .t) 0,.row 3 [.agg [.t (I ((brN d+stN d:Nat):Int)),.ms 1 (dSt d).length 0 (dSt d).length 1 false,.ms 2 (dL3 d).length 0 (dL3 d).length 4 false]] 1,.row 3 [.agg (tpA ((brN d+stN d:Nat):Int) (dSt d).length q5)] m5,.row 3 [.agg (tpA ((brN d+stN d:Nat):Int) (dSt d).length q8)] 1,.row 4 [.t (lkT l)] 1]:Heap)=hpU q5 m5 q8 l ((brN d+stN d:Nat):Int) (dSt d) (dL3 d) (dSt d).length (dL3 d).length 1:=rfl
   rw [hheap]
   refine topu_l3 q5 m5 q8 hm5 l c1 c2 c3 c4 d hd 4 nn hn _ _ (by simp only [go_sem,eD,e1,e2,e3,e4,e5]) ?_
   clear e1 e2 e3 e5 e4
   intro e ⟨e1,e2,e3,e5⟩
   simp only [hpU,hpT,zzT,List.cons_append,List.nil_append]
   (repeat' first|simp only [List.cons_append,List.nil_append,go_sem,e1,e2,e3,e5]|(with_reducible first|apply wD|apply wT|(apply wM; intro)|(apply wL; intro))|((with_reducible first|refine wA ?_ ?_|refine wE ?_); rfl))
   refine topu_l4 q5 m5 q8 hm5 l c1 c2 c3 c4 d hd 4 nn hn _ _ (by simp only [go_sem,eD,e1,e2,e3,e5]) ?_
   clear e1 e2 e3 e5
   intro e ⟨e1,e2,e3,e5⟩
   simp only [hpU,hpT,zzT,List.cons_append,List.nil_append]
   (repeat' first|simp only [List.cons_append,List.nil_append,go_sem,e1,e2,e3,e5,hl1,hl2]|(with_reducible first|apply wD|apply wT|(apply wM; intro)|(apply wL; intro))|((with_reducible first|refine wA ?_ ?_|refine wE ?_); rfl))
  ·have d2:=decide_eq_false hm
   have h3:=tail (fun h=>hm h.2)
   simp only [hpT]
   (repeat' first|simp only [List.cons_append,List.nil_append,go_sem,e1,e2,e3,e4,e5,d1,d2,t3,w3,v6]|(with_reducible first|apply wD|apply wT|(apply wM; intro)|(apply wL; intro))|((with_reducible first|refine wA ?_ ?_|refine wE ?_); rfl))
   have hheap:([.row 3 [.t zT3] 0,.row 1 (((dSt d).map B).map .t) 0,.row 4 (((dL2 d).map encK).map .t) 0,.row 3 [.agg (tpA ((brN d+stN d:Nat):Int) (dSt d).length (dL2 d).length)] 1]:Heap)=hpT ((brN d+stN d:Nat):Int) (dSt d) (dL3 d) (dSt d).length (dL3 d).length 1:=by rw [h3]; rfl
   rw [hheap]
   refine topo_l3 c1 c2 c3 c4 d hd 4 nn hn _ _ (by simp only [go_sem,eD,e1,e2,e3,e4,e5]) ?_
   clear e1 e2 e3 e5 e4
   intro e ⟨e1,e2,e3,e5⟩
   simp only [hpT]
   (repeat' first|simp only [List.cons_append,List.nil_append,go_sem,e1,e2,e3,e5]|(with_reducible first|apply wD|apply wT|(apply wM; intro)|(apply wL; intro))|((with_reducible first|refine wA ?_ ?_|refine wE ?_); rfl))
   refine topo_l4 c1 c2 c3 c4 d hd 4 nn hn _ _ (by simp only [go_sem,eD,e1,e2,e3,e5]) ?_
   clear e1 e2 e3 e5
   intro e ⟨e1,e2,e3,e5⟩
   simp only [hpT]
   (repeat' first|simp only [List.cons_append,List.nil_append,go_sem,e1,e2,e3,e5,hl1,hl2]|(with_reducible first|apply wD|apply wT|(apply wM; intro)|(apply wL; intro))|((with_reducible first|refine wA ?_ ?_|refine wE ?_); rfl))
 ·have d1:decide (2 < ((brN d:Nat):Int))=false:=decide_eq_false (by omega)
  have h3:=tail (fun h=>hb2 h.1)
  simp only [hpT]
  (repeat' first|simp only [List.cons_append,List.nil_append,go_sem,e1,e2,e3,e4,e5,d1]|(with_reducible first|apply wD|apply wT|(apply wM; intro)|(apply wL; intro))|((with_reducible first|refine wA ?_ ?_|refine wE ?_); rfl))
  have hheap:([.row 3 [.t zT3] 0,.row 1 (((dSt d).map B).map .t) 0,.row 4 (((dL2 d).map encK).map .t) 0,.row 3 [.agg (tpA ((brN d+stN d:Nat):Int) (dSt d).length (dL2 d).length)] 1]:Heap)=hpT ((brN d+stN d:Nat):Int) (dSt d) (dL3 d) (dSt d).length (dL3 d).length 1:=by rw [h3]; rfl
  rw [hheap]
  refine topo_l3 c1 c2 c3 c4 d hd 4 nn hn _ _ (by simp only [go_sem,eD,e1,e2,e3,e4,e5]) ?_
  clear e1 e2 e3 e5 e4
  intro e ⟨e1,e2,e3,e5⟩
  simp only [hpT]
  (repeat' first|simp only [List.cons_append,List.nil_append,go_sem,e1,e2,e3,e5]|(with_reducible first|apply wD|apply wT|(apply wM; intro)|(apply wL; intro))|((with_reducible first|refine wA ?_ ?_|refine wE ?_); rfl))
  refine topo_l4 c1 c2 c3 c4 d hd 4 nn hn _ _ (by simp only [go_sem,eD,e1,e2,e3,e5]) ?_
  clear e1 e2 e3 e5
  intro e ⟨e1,e2,e3,e5⟩
  simp only [hpT]
  (repeat' first|simp only [List.cons_append,List.nil_append,go_sem,e1,e2,e3,e5,hl1,hl2]|(with_reducible first|apply wD|apply wT|(apply wM; intro)|(apply wL; intro))|((with_reducible first|refine wA ?_ ?_|refine wE ?_); rfl))
end Go.Proofs.Ytbibdnlbpjnieaa
