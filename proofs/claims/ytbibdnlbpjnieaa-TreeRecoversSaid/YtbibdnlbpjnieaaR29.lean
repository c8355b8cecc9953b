/- Part 29 of the proof of TreeRecovers. -/
import Derived.Test.YtbibdnlbpjnieaaR28
set_option linter.all false
set_option maxRecDepth 100000
set_option maxHeartbeats 4000000
namespace Go.Proofs.Ytbibdnlbpjnieaa
open Go Go.Abs
theorem goalW_mv {t:Tpo} {p:List Int} {d:List Bool} {b b':List Bx} (h:b'.length=b.length):goalW ⟨t,p,d,b'⟩=goalW ⟨t,p,d,b⟩:=by
 funext n q
 show goalG _ _ (bestL _ _ _) n q=goalG _ _ (bestL _ _ _) n q
 unfold bestL
 simp only [h]
 rfl
theorem goal_mv {w w':Nw} (h1:w'.t=w.t) (h2:w'.prios=w.prios) (h3:w'.down=w.down) (h4:w'.bs.length=w.bs.length):asL w' (goalW w')=asL w (goalW w):=by
 obtain ⟨t,p,d,b⟩:=w
 obtain ⟨t',p',d',b'⟩:=w'
 simp only at h1 h2 h3 h4
 subst h1 h2 h3
 exact asL_congr rfl rfl h4 (fun n q _ _ _ _=>by rw [goalW_mv h4])
structure Fol (w w':Nw):Prop where
 v:VN w'
 t:w'.t=w.t
 p:w'.prios=w.prios
 d:w'.down=w.down
theorem Fol.run {w w':Nw} (h:Fol w w') (T:Nat):Fol w (runW w' T):=⟨h.v.run T,(runW_t w' T).1.trans h.t,(runW_t w' T).2.1.trans h.p,(runW_t w' T).2.2.trans h.d⟩
theorem rec_ans (c1 c2 c3 c4 cp cg:Bool) (d:Dr) (hd:drP d) (prios:List Int) (ghs:List Gh) (link bef:Int) (hp:u8P prios) (hg:ghP ghs) (hlk:0≤link∧link < 256) (hbf:0≤bef∧bef < 256) :
  ans Try.prog pol 4 [drT c1 c2 c3 c4 d,.sl cp 1 (prios.map U8),.sl cg 9 (ghs.map encG),U8 link,U8 bef]=some (B true):=by
 have k0:=wakes_ans
 have k1:=made_ansN c1 c2 c3 c4 cp cg d hd prios ghs hp hg
 obtain ⟨hv,ht⟩:=mdW_ok hd hp [] ghs
 have hdn:(mdW d prios [] ghs).2.down=List.replicate (dTopo d).links.length false:=(mdG_ok hd hp ghs).2.2.1
 generalize (mdW d prios [] ghs).1=f at *
 generalize (mdW d prios [] ghs).2=w at *
 obtain ⟨z1,z2,z3⟩:=okT_size hv.t
 obtain ⟨N,hN⟩:∃ N:Nat,w.t.nodes=(N:Nat):=⟨w.t.nodes.toNat,by omega⟩
 have hL0:0 < w.t.links.length:=List.length_pos_iff.2 (links_ne hv.t)
 have m1:=Int.emod_nonneg link (b:=((w.t.links.length:Nat):Int)) (by omega)
 have m2:=Int.emod_lt_of_pos link (b:=((w.t.links.length:Nat):Int)) (by omega)
 obtain ⟨i,hi⟩:∃ i:Nat,(i:Int)=link % (w.t.links.length:Nat):=⟨(link % (w.t.links.length:Nat)).toNat,by omega⟩
 obtain ⟨a,ha⟩:∃ a:Nat,(a:Int)=bef % 40:=⟨(bef % 40).toNat,by omega⟩
 obtain ⟨b,hb⟩:∃ b:Nat,(b:Int)=bef % 7:=⟨(bef % 7).toNat,by omega⟩
 obtain ⟨T,hT⟩:∃ T,T=20+N+2:=⟨_,rfl⟩
 have hil:i < w.t.links.length:=by omega
 -- the networks
 have f1:Fol w (runW w a):=⟨hv.run a,(runW_t w a).1,(runW_t w a).2.1,(runW_t w a).2.2⟩
 have kG:=GoalT_ok f w hv.z hv.ok
 have kA:=rounds_ans f w hv a (by omega)
 generalize hw1:runW w a=w1 at *
 have kC:=Cut_ok (runF f a) w1 f1.v.z f1.v.ok i (by rw [f1.t]; exact hil) f1.v.b6
 have hv2:=f1.v.cut i
 obtain ⟨w2,hw2⟩:∃ w2:Nw,w2=⟨w1.t,w1.prios,w1.down.set i true,cutL w1 i⟩:=⟨_,rfl⟩
 rw [← hw2] at kC hv2
 have e2t:w2.t=w.t:=by rw [hw2]; exact f1.t
 have e2p:w2.prios=w.prios:=by rw [hw2]; exact f1.p
 have e2d:w2.down=w.down.set i true:=by rw [hw2]; show w1.down.set i true=_; rw [f1.d]
 have kB:=rounds_ans fl1 w2 hv2 b (by omega)
 have f3:Fol w2 (runW w2 b):=⟨hv2.run b,(runW_t w2 b).1,(runW_t w2 b).2.1,(runW_t w2 b).2.2⟩
 generalize hw3:runW w2 b=w3 at *
 have kR:=Restore_ok (runF fl1 b) w3 f3.v.z f3.v.ok i (by rw [f3.t,e2t]; exact hil) f3.v.b6
 have hv4:=f3.v.restore i
 obtain ⟨w4,hw4⟩:∃ w4:Nw,w4=⟨w3.t,w3.prios,w3.down.set i false,w3.bs.map cpX⟩:=⟨_,rfl⟩
 rw [← hw4] at kR hv4
 have e4t:w4.t=w.t:=by rw [hw4]; exact f3.t.trans e2t
 have e4p:w4.prios=w.prios:=by rw [hw4]; exact f3.p.trans e2p
 have e4d:w4.down=w.down:=by
  rw [hw4]
  show w3.down.set i false=w.down
  rw [f3.d,e2d,List.set_set,hdn]
  exact set_same (by rw [List.getElem?_replicate,if_pos (by rw [← ht]; exact hil)])
 have e4b:w4.bs.length=w.bs.length:=by
  have h1:=hv4.bl
  have h2:=hv.bl
  rw [e4t] at h1
  omega
 have kG4:=GoalT_ok fl1 w4 hv4.z hv4.ok
 rw [goal_mv e4t e4p e4d e4b] at kG4
 have kT:=rounds_ans fl1 w4 hv4 T (by omega)
 have hrf:runF fl1 T=fl1:=by rw [hT]; rfl
 rw [hrf] at kT
 have kZ:=RolesT_ok fl1 (runW w4 T) (hv4.run T).z (hv4.run T).ok
 rw [as_converge hv4 (by rw [e4t]; omega),goal_mv e4t e4p e4d e4b] at kZ
 have hlen:=asL_48 hv (goalW w)
 have heq:=equalI_ans true true (asL w (goalW w)) (asL w (goalW w)) hlen
 rw [decide_eq_true rfl] at heq
 generalize asL w (goalW w)=G at *
 generalize runW w4 T=w5 at *
 -- the numbers
 have t1:bef.tmod 40=((a:Nat):Int):=by rw [Int.tmod_eq_emod_of_nonneg hbf.1,ha]
 have t2:bef.tmod 7=((b:Nat):Int):=by rw [Int.tmod_eq_emod_of_nonneg hbf.1,hb]
 have u1:IntKind.u8.wrap ((a:Nat):Int)=((a:Nat):Int):=by rw [wrap_u8]; omega
 have u2:IntKind.u8.wrap ((b:Nat):Int)=((b:Nat):Int):=by rw [wrap_u8]; omega
 have v1:IntKind.i64.wrap ((a:Nat):Int)=((a:Nat):Int):=wrap_i64 (by omega) (by omega)
 have v2:IntKind.i64.wrap ((b:Nat):Int)=((b:Nat):Int):=wrap_i64 (by omega) (by omega)
 have v3:IntKind.i64.wrap link=link:=wrap_i64 (by omega) (by omega)
 have t3:link.tmod (w.t.links.length:Nat)=((i:Nat):Int):=by rw [Int.tmod_eq_emod_of_nonneg hlk.1,hi]
 have v4:IntKind.i64.wrap ((i:Nat):Int)=((i:Nat):Int):=wrap_i64 (by omega) (by omega)
 have hl1:w1.t.links.length=w.t.links.length:=by rw [f1.t]
 have hn0:¬ (((w.t.links.length:Nat):Int)=0):=by omega
 have v5:IntKind.i64.wrap (20+w4.t.nodes)=20+w4.t.nodes:=wrap_i64 (by rw [e4t]; omega) (by rw [e4t]; omega)
 have v6:IntKind.i64.wrap (20+w4.t.nodes+2)=((T:Nat):Int):=by rw [e4t,wrap_i64 (by omega) (by omega)]; omega
 generalize runF f a=fa at *
 generalize runF fl1 b=fb at *
 clear hw1 hw2 hw3 hw4 e2t e2p e2d e4t e4p e4d e4b f1 f3 hv2 hv4 hv ht hdn
 refine ans_go 2000 1 il4_eq (Nat.le_of_ble_eq_true rfl) ?_
 (repeat' first|simp only [il4c,go_sem,k0,k1,kG,kA,kC,kB,kR,kG4,kT,kZ,heq,t1,t2,t3,u1,u2,v1,v2,v3,v4,v5,v6,hl1,hn0]|(with_reducible first|apply wD|apply wT|(apply wM; intro)|(apply wL; intro))|((with_reducible first|refine wA ?_ ?_|refine wE ?_); rfl))
end Go.Proofs.Ytbibdnlbpjnieaa
namespace Go.Proofs.Ytbibdnlbpjnieaa
open Go Go.Abs
theorem len_lt {n:Nat} (h:n≤maxLen):n < 9223372036854775808:=Nat.lt_of_le_of_lt h (by decide)
theorem u8s_one {x:T} (f:FitE Try.prog 5 x):∃ a,x=U8 a∧(fun a:Int=>0≤a∧a < 256) a:=by
 obtain ⟨n0,rfl,w0⟩:=fit_leaf (l:=.int .u8) (by kernel_rfl) (by kernel_rfl) f
 exact ⟨n0,rfl,wf_u8 w0⟩
theorem u8s {xs:List T} (h:∀ y∈xs,FitE Try.prog 5 y):∃ l,xs=List.map U8 l∧∀ a∈l,(fun a:Int=>0≤a∧a < 256) a:=list_enc' (fun y hy=>u8s_one (h y hy))
theorem ghosts_one {x:T} (f:FitE Try.prog 69 x):∃ a,x=encG a∧(fun g:Gh=>(0≤g.n∧g.n < 256)∧(0≤g.p∧g.p < 256)) a:=by
 obtain ⟨c,rfl,g⟩:=fit_agg (ls:=[.int .u8,.int .u8,.int .i64,.int .i64,.int .i64,.int .i64,.int .i64,.int .i64,.int .i64]) (by kernel_rfl) (by kernel_rfl) f
 obtain ⟨y0,q0,rfl,v0,g⟩:=leafs_cons g
 obtain ⟨y1,q1,rfl,v1,g⟩:=leafs_cons g
 obtain ⟨y2,q2,rfl,v2,g⟩:=leafs_cons g
 obtain ⟨y3,q3,rfl,v3,g⟩:=leafs_cons g
 obtain ⟨y4,q4,rfl,v4,g⟩:=leafs_cons g
 obtain ⟨y5,q5,rfl,v5,g⟩:=leafs_cons g
 obtain ⟨y6,q6,rfl,v6,g⟩:=leafs_cons g
 obtain ⟨y7,q7,rfl,v7,g⟩:=leafs_cons g
 obtain ⟨y8,q8,rfl,v8,g⟩:=leafs_cons g
 obtain rfl:=leafs_nil g
 obtain ⟨n0,rfl,w0⟩:=v0
 obtain ⟨n1,rfl,w1⟩:=v1
 obtain ⟨n2,rfl,w2⟩:=v2
 obtain ⟨n3,rfl,w3⟩:=v3
 obtain ⟨n4,rfl,w4⟩:=v4
 obtain ⟨n5,rfl,w5⟩:=v5
 obtain ⟨n6,rfl,w6⟩:=v6
 obtain ⟨n7,rfl,w7⟩:=v7
 obtain ⟨n8,rfl,w8⟩:=v8
 exact ⟨⟨n0,n1,⟨true,n2,n3,n4,n5,n6,n7,n8⟩⟩,rfl,⟨wf_u8 w0,wf_u8 w1⟩⟩
theorem ghosts {xs:List T} (h:∀ y∈xs,FitE Try.prog 69 y):∃ l,xs=List.map encG l∧∀ a∈l,(fun g:Gh=>(0≤g.n∧g.n < 256)∧(0≤g.p∧g.p < 256)) a:=list_enc' (fun y hy=>ghosts_one (h y hy))
end Go.Proofs.Ytbibdnlbpjnieaa
