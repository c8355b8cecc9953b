/- Part 23 of the proof of TreeNews. -/
import Derived.Test.YtbibdnlbpjnieaaGreatN22
set_option linter.all false
set_option maxRecDepth 100000
set_option maxHeartbeats 4000000
namespace Go.Proofs.YtbibdnlbpjnieaaGreat
open Go Go.Abs
theorem rfresh_f6 (f:Fl) (w:Nw) (n:Nat) (h:okT w.t=true) (hr:n < w.prios.length) (hn:(n:Int) < w.t.nodes) (hst:stA w.t n=false) (dd nn:Nat) (hnn:200 < nn) (Q:AV→Heap→Prop)
  (hQ:Q (.agg [.t (I (prA w n)),.t (I (n:Nat)),.ms 7 (trunkL w.t n).length 0 (trunkL w.t n).length 1 false,.ms 9 (trunkL w.t n).length 0 (trunkL w.t n).length 1 false,.ms 12 (trunkL w.t n).length 0 (trunkL w.t n).length 8 true]) [.gone,.gone,.gone,.gone,.gone,.gone,.row 5 [.agg [.t (I (prA w n)),.t (I (n:Nat)),.ms 7 (trunkL w.t n).length 0 (trunkL w.t n).length 1 false,.ms 9 (trunkL w.t n).length 0 (trunkL w.t n).length 1 false,.ms 12 (trunkL w.t n).length 0 (trunkL w.t n).length 8 true]] 1,rowG 1 I ((trunkL w.t n).map ofN),.row 1 [] 0,rowG 1 I (costL w.t n),.row 8 [] 0,.row 5 [.agg [.t (I (prA w n)),.t (I (n:Nat)),.ms 7 (trunkL w.t n).length 0 (trunkL w.t n).length 1 false,.ms 9 (trunkL w.t n).length 0 (trunkL w.t n).length 1 false,.ms 12 (trunkL w.t n).length 0 (trunkL w.t n).length 8 true]] 1,.row 8 (List.replicate (trunkL w.t n).length (.t (encH zH))) 0]) :
  oB (inl Tryz.prog pol (ans Tryz.prog pol) nn (dd+2) (.fn 39) [.t (nwT f w),.t (I (n:Nat))] (List.replicate 6 .gone)) Q:=by
 obtain ⟨z1,z2,z3⟩:=okT_size h
 have gs:(w.t.station.map B)[n]? = some (B (stA w.t n)):=by simp [stA,show n < w.t.station.length by omega]
 rw [hst] at gs
 have k1:=rbid_ans f w n hr
 have kp:=@rPortsB_f7 f.st f.lk w.t n h hst dd nn hnn
 have h24:=trunk_24 h (n:Nat)
 have hplt:=fun p=>@trunk_lt w.t (n:Nat) p
 simp only [costL] at *
 generalize trunkL w.t (n:Nat)=P at *
 with_reducible refine oB_inl il39_eq ?_ ?_
 ·exact Nat.le_of_ble_eq_true rfl
 simp only [List.replicate_succ,List.replicate_zero]
 (repeat' first|simp only [il39c,go_sem,gs,k1]|(with_reducible first|apply wD|apply wT|(apply wM; intro)|(apply wL; intro))|((with_reducible first|refine wA ?_ ?_|refine wE ?_); rfl))
 try simp only [List.length_cons,List.length_nil,Nat.reduceAdd]
 with_reducible refine @kp _ ?_
 have pa:avoid (belowB 7) (.ms 7 P.length 0 P.length 1 false)=true:=by simp [avoid,belowB]
 have pb:avoidObj (belowB 7) (rowG 1 I (P.map ofN))=true:=by simp only [rowG,avoidObj,av_map]
 have hPl:(P.map ofN).length=P.length:=List.length_map ..
 (repeat' first|simp only [il39c,freshK_app,List.replicate_succ,List.replicate_zero,List.drop_succ_cons,List.drop_zero,List.cons_append,List.nil_append,go_sem,gs,k1,pa,pb,frz_rowG]|(with_reducible first|apply wD|apply wT|(apply wM; intro)|(apply wL; intro))|((with_reducible first|refine wA ?_ ?_|refine wE ?_); rfl))
 refine loop_range P (fun p=>I (ofN p)) (step:=fun _ p (o:List Int)=>.go (o++[perP w.t p])) (fin:=id)
  (St:=fun i o e h=>(e 2=.t (.ip (nwC f w))∧e 4=.ref 6 1 0 0∧e 5=.ref 11 1 0 0∧e 6=.t (I (i:Nat)))∧o.length=i∧h=[.gone,.gone,.gone,.gone,.gone,.gone,.row 5 [.t zB] 0,rowG 1 I (P.map ofN),.row 1 [] 0,rowG 1 I o,.row 8 [] 0,.row 5 [.agg [.t (I (prA w n)),.t (I (n:Nat)),.ms 7 P.length 0 P.length 1 false,.ms 9 o.length 0 o.length 1 false,.ms 10 0 0 0 8 false]] 1])
  (Ex:=fun o x e h=>(e 4=.ref 6 1 0 0∧e 5=.ref 11 1 0 0)∧x=.exit 0∧h=[.gone,.gone,.gone,.gone,.gone,.gone,.row 5 [.t zB] 0,rowG 1 I (P.map ofN),.row 1 [] 0,rowG 1 I o,.row 8 [] 0,.row 5 [.agg [.t (I (prA w n)),.t (I (n:Nat)),.ms 7 P.length 0 P.length 1 false,.ms 9 o.length 0 o.length 1 false,.ms 10 0 0 0 8 false]] 1]) (s:=[]) (by omega) ?_ ?_ (by omega) ?_ ?_
 ·intro i p o e h' Y R hm hi hx hget hlt hw ⟨hs,ho,hh⟩ hk
  subst hh
  simp only [ctlK_go] at hk
  have hp:=hplt p hm
  have k2:=rPer_ans f.st f.lk w.t p hp (by omega)
  have gp:((((P.map ofN).map I).map AV.t))[i]? = some (.t (I (p:Nat))):=by simp [hx,ofN]
  have gl:((((P.map ofN).map I).map AV.t)).length=P.length:=by simp
  have hroom:(o.length+1)*8≤roomB:=ap_room (by omega) (by omega)
  have is2:rowIs 1 o.length (some (rowG 1 I o)):=rowG_is
  have hrw:rwB P.length i (some (rowG 1 I (P.map ofN)))=some (.t (I (p:Nat))):=by
   rw [rowG_eq,rwB_row,if_pos ⟨Nat.zero_le _,hi,by rw [gl]; exact Nat.le_refl _⟩,gp]
  (repeat' first|simp only [il39l0_go,il39l0b,go_sem,hs,hi,hlt,hw,k2,hrw,hroom,is2,rowG_es,rowG_mr,rowG_push,frz_rowG]|(with_reducible first|apply wD|apply wT|(apply wM; intro)|(apply wL; intro))|((with_reducible first|refine wA ?_ ?_|refine wE ?_); rfl))
  all_goals (refine hk _ _ ⟨?_,by simp [ho],?_⟩ <;> simp only [go_sem,hs,hw,List.length_append])
 ·intro o e h' Y R hlt ⟨hs,ho,hh⟩ hk
  subst hh
  (repeat' first|simp only [il39l0_go,il39l0b,go_sem,hs,hlt]|(with_reducible first|apply wD|apply wT|(apply wM; intro)|(apply wL; intro))|((with_reducible first|refine wA ?_ ?_|refine wE ?_); rfl))
  all_goals (refine hk _ _ _ ⟨?_,rfl,rfl⟩; simp only [go_sem,hs,id])
 ·refine ⟨?_,rfl,rfl⟩
  simp only [go_sem]
 ·intro x e h' ⟨h1,h2,h3⟩
  have hf:∀ (l:List Nat) (i:Nat) (o:List Int),foldC (ρ:=List Int) (fun _ p o=>Ctl.go (o++[perP w.t p])) id i l o=o++l.map (perP w.t):=by
   intro l
   induction l with
   | nil=>intro i o; simp [foldC]
   | cons p l ih=>intro i o; rw [foldC_go (s':=o++[perP w.t p]) rfl,ih]; simp
  rw [hf,List.nil_append] at h3
  have hcl:(P.map (perP w.t)).length=P.length:=List.length_map ..
  rw [hcl] at h3
  subst h2 h3
  have hroom:64*P.length≤roomB:=by rw [Nat.mul_comm]; exact ap_room (by omega) (by omega)
  have hbig:P.length≤9223372036854775807:=by omega
  have hpos:(0:Int)≤(P.length:Nat):=by omega
  have e1:(T.agg [T.sc (Value.bool false),T.sc (Value.int IntKind.i64 0),T.sc (Value.int IntKind.i64 0),T.sc (Value.int IntKind.i64 0),T.sc (Value.int IntKind.i64 0),T.sc (Value.int IntKind.i64 0),T.sc (Value.int IntKind.i64 0),T.sc (Value.int IntKind.i64 0)])=encH zH:=rfl
  rw [← e1] at hQ
  (repeat' first|simp only [il39c,go_sem,h1,hroom,hbig,hpos]|(with_reducible first|apply wD|apply wT|(apply wM; intro)|(apply wL; intro))|((with_reducible first|refine wA ?_ ?_|refine wE ?_); rfl))
  all_goals exact hQ
theorem rfreshS_f6 (f:Fl) (w:Nw) (n:Nat) (h:okT w.t=true) (hr:n < w.prios.length) (hn:(n:Int) < w.t.nodes) (hst:stA w.t n=true) (dd nn:Nat) (hnn:200 < nn) (Q:AV→Heap→Prop)
  (hQ:Q (.t (encX zBx)) [.gone,.gone,.gone,.gone,.gone,.gone,.row 5 [.t (encX zBx)] 1]) :
  oB (inl Tryz.prog pol (ans Tryz.prog pol) nn (dd+2) (.fn 39) [.t (nwT f w),.t (I (n:Nat))] (List.replicate 6 .gone)) Q:=by
 obtain ⟨z1,z2,z3⟩:=okT_size h
 have gs:(w.t.station.map B)[n]? = some (B (stA w.t n)):=by simp [stA,show n < w.t.station.length by omega]
 rw [hst] at gs
 with_reducible refine oB_inl il39_eq ?_ ?_
 ·exact Nat.le_of_ble_eq_true rfl
 simp only [List.replicate_succ,List.replicate_zero]
 (repeat' first|simp only [il39c,go_sem,gs]|(with_reducible first|apply wD|apply wT|(apply wM; intro)|(apply wL; intro))|((with_reducible first|refine wA ?_ ?_|refine wE ?_); rfl))
 all_goals exact hQ
end Go.Proofs.YtbibdnlbpjnieaaGreat
namespace Go.Proofs.YtbibdnlbpjnieaaGreat
open Go Go.Abs
def rnewB (t:Tpo) (prios:List Int) (n:Nat):Br:=newB (prios[n]?.getD 0) (n:Nat) ((trunkL t n).map ofN) (costL t n)
def rnewX (t:Tpo) (prios:List Int) (n:Nat):Bx:=if stA t n=true then zBx else ⟨false,false,false,true,rnewB t prios n⟩
theorem frz_rowX {α:Type} {k:Nat} {enc:α→T} {l:List α} {h:Heap} {p:Nat→Bool}:frzObj h p (rowG k enc l)=some (rowG k enc l):=by
 rw [rowG_eq]
 simp only [frzObj,av_map,if_true]
theorem mapO_appG {α β:Type} {f:α→Option β}:∀ {a b:List α} {a' b':List β},mapO f a=some a'→mapO f b=some b'→mapO f (a++b)=some (a'++b'):=by
 intro a
 induction a with
 | nil=>intro b a' b' h1 h2; simp only [mapO,Option.some.injEq] at h1; subst h1; simpa using h2
 | cons y a ih =>
  intro b a' b' h1 h2
  simp only [mapO] at h1
  cases hfy:f y with
  | none=>rw [hfy] at h1; simp at h1
  | some z =>
   rw [hfy] at h1
   cases hm:mapO f a with
   | none=>rw [hm] at h1; simp at h1
   | some zs =>
    rw [hm] at h1
    simp only [Option.some.injEq] at h1
    subst h1
    simp only [List.cons_append,mapO,hfy,ih hm h2]
theorem frz_newX {hx:Heap} {p n:Int} {P C:List Int} {k:Nat} (hP:P.length=k) (hC:C.length=k) (h7:hx[7]? = some (rowG 1 I P)) (h9:hx[9]? = some (rowG 1 I C)) (h12:hx[12]? = some (.row 8 (List.replicate k (.t (encH zH))) 0)) :
  frz hx (fromB 6) (.agg [.t (I p),.t (I n),.ms 7 k 0 k 1 false,.ms 9 k 0 k 1 false,.ms 12 k 0 k 8 true])=some (.t (encX ⟨false,false,false,true,⟨p,n,P,C,List.replicate k zH⟩⟩)):=by
 have f1:=frz_msr (l:=P) (enc:=I) (p:=fromB 6) (c:=false) rfl h7 (Nat.zero_le k) hP.symm
 have f2:=frz_msr (l:=C) (enc:=I) (p:=fromB 6) (c:=false) rfl h9 (Nat.zero_le k) hC.symm
 have e12:(.row 8 (List.replicate k (.t (encH zH))) 0:AObj)=.row 8 (((List.replicate k zH).map encH).map .t) 0:=by simp
 rw [e12] at h12
 have f3:=frz_msr (l:=List.replicate k zH) (enc:=encH) (p:=fromB 6) (c:=true) (n:=k) rfl h12 (Nat.zero_le k) (by simp)
 refine (frz_aggN (cs':=[.t (I p),.t (I n),.t (.sl false 1 (P.map I)),.t (.sl false 1 (C.map I)),.t (.sl true 8 ((List.replicate k zH).map encH))]) (by simp [avoidAll,avoid,fromB]) ?_).trans ?_
 ·simp only [mapO,frzCell_t,frzCell_ms,f1,f2,f3]
 ·rfl
theorem frzObj_newX {hx:Heap} {q:Nat→Bool} {o:List Bx} {v:AV} {x:Bx} (h:frz hx q v=some (.t (encX x))):frzObj hx q (.row 5 ((o.map encX).map .t++[v]) 0)=some (rowG 5 encX (o++[x])):=by
 have h1:mapO (frz hx q) ((o.map encX).map .t++[v])=some ((o.map encX).map .t++[.t (encX x)]):=mapO_appG (mapO_frz_avoid av_map) (by simp only [mapO,h])
 have h2:AObj.row 5 ((o.map encX).map .t++[.t (encX x)]) 0=rowG 5 encX (o++[x]):=rowG_push
 by_cases ha:avoidAll q ((o.map encX).map .t++[v])=true
 ·rw [frzObj_row ha,← h2]
  rw [mapO_frz_avoid ha] at h1
  rw [Option.some.inj h1]
 ·simp only [frzObj,ha,h1,h2,Bool.false_eq_true,if_false]
theorem rNew_ans (c1 c2 c:Bool) (t:Tpo) (prios:List Int) (h:okT t=true) (h2:rankL t prios=true):ans Tryz.prog pol 13 [tpT c1 c2 t,.sl c 1 (prios.map I)]=some (nwT ⟨c1,c2,c,true,false⟩ ⟨t,prios,List.replicate t.links.length false,(List.range t.nodes.toNat).map (rnewX t prios)⟩):=by
 obtain ⟨z1,z2,z3⟩:=okT_size h
 obtain ⟨N,hN⟩:∃ N:Nat,(N:Int)=t.nodes:=⟨t.nodes.toNat,by omega⟩
 have hNt:t.nodes.toNat=N:=by omega
 have hpl:=rankL_len h2
 have hroom1:1*t.links.length≤roomB:=by rw [Nat.mul_comm]; exact ap_room (by omega) (by omega)
 have hbig1:t.links.length≤9223372036854775807:=by omega
 have hpos:(0:Int)≤(t.links.length:Nat):=by omega
 obtain ⟨nn,hn⟩:∃ nn,1000 < nn:=⟨2000,by omega⟩
 have hn2:200 < nn:=by omega
 have hmap:List.replicate t.links.length (AV.t (T.sc (Value.bool false)))=((List.replicate t.links.length false).map B).map .t:=by simp
 have hdl:(((List.replicate t.links.length false).map B).map AV.t).length=t.links.length:=by simp
 refine ans_go nn 5 il13_eq (Nat.le_of_ble_eq_true rfl) ?_
 (repeat' first|simp only [il13c,go_sem,hroom1,hbig1,hpos]|(with_reducible first|apply wD|apply wT|(apply wM; intro)|(apply wL; intro))|((with_reducible first|refine wA ?_ ?_|refine wE ?_); rfl))
 rw [hmap]
 generalize hD:List.replicate t.links.length false=D at *
 refine loop_upto N (step:=fun n (o:List Bx)=>.go (o++[rnewX t prios n])) (fin:=id)
  (St:=fun n o e hh=>(e 2=.t (.ip (tpC c1 c2 t))∧e 4=.ref 0 1 0 0∧e 5=.ref 5 1 0 0∧e 6=.t (I (n:Nat)))∧o.length=n∧hh=[.row 6 [.t zN6] 0,.row 1 ((D.map B).map .t) 0,.row 1 [] 0,.row 1 [] 0,rowG 5 encX o,.row 6 [.agg [.t (I t.nodes),.t (.sl c1 1 (t.station.map B)),.t (.sl c2 4 (t.links.map encK)),.t (.sl c 1 (prios.map I)),.ms 1 t.links.length 0 t.links.length 1 true,.ms 4 o.length 0 o.length 5 false]] 1])
  (Ex:=fun o x e hh=>(e 4=.ref 0 1 0 0∧e 5=.ref 5 1 0 0)∧x=.exit 0∧o.length=N∧hh=[.row 6 [.t zN6] 0,.row 1 ((D.map B).map .t) 0,.row 1 [] 0,.row 1 [] 0,rowG 5 encX o,.row 6 [.agg [.t (I t.nodes),.t (.sl c1 1 (t.station.map B)),.t (.sl c2 4 (t.links.map encK)),.t (.sl c 1 (prios.map I)),.ms 1 t.links.length 0 t.links.length 1 true,.ms 4 o.length 0 o.length 5 false]] 1]) (s:=[]) (by omega) ?_ ?_ (by omega) ?_ ?_
 ·intro n o e hh Y R hi hlt hw ⟨hs,ho,hhe⟩ hk
  subst hhe
  simp only [ctlK_go] at hk
  rw [hN] at hlt
  have hol:((o.map encX).map AV.t).length=n:=by simp [ho]
  have kt:=@rfresh_f6 ⟨c1,c2,c,true,false⟩ ⟨t,prios,D,o⟩ n h (show n < prios.length by omega) (show (n:Int) < t.nodes by omega)
  have ks:=@rfreshS_f6 ⟨c1,c2,c,true,false⟩ ⟨t,prios,D,o⟩ n h (show n < prios.length by omega) (show (n:Int) < t.nodes by omega)
  have hprA:prA ⟨t,prios,D,o⟩ n=prios[n]?.getD 0:=rfl
  have hroom:(o.length+1)*88≤roomB:=ap_room (by omega) (by omega)
  have is1:rowIs 5 o.length (some (rowG 5 encX o)):=rowG_is
  rw [hprA] at kt
  dsimp only at kt ks
  (repeat' first|simp only [il13l0_go,il13l0b,go_sem,hs,hlt]|(with_reducible first|apply wD|apply wT|(apply wM; intro)|(apply wL; intro))|((with_reducible first|refine wA ?_ ?_|refine wE ?_); rfl))
  rw [call_freshS (ts:=[nwT ⟨c1,c2,c,true,false⟩ ⟨t,prios,D,o⟩,I (n:Nat)])]
  rotate_left
  ·rfl
  ·rfl
  ·simp only [go_sem]
  ·have sb:∀ (hx:Heap) (p:Nat→Bool) (d:Nat),p 4=true→hx[4]? = some (rowG 5 encX o)→snap hx p (d+1) (.ms 4 o.length 0 o.length 5 false)=some (.sl false 5 (o.map encX)):=fun hx p d hp hr=>snp_msR hp hr (Nat.zero_le _) rfl
   have sd:∀ (hx:Heap) (p:Nat→Bool) (d:Nat),p 1=true→hx[1]? = some (.row 1 ((D.map B).map .t) 0)→snap hx p (d+1) (.ms 1 t.links.length 0 t.links.length 1 true)=some (.sl true 1 (D.map B)):=fun hx p d hp hr=>snp_msR hp hr (Nat.zero_le _) (by rw [← hD]; simp)
   simp only [go_sem,hol,hdl,sb,sd]
  rw [freshST_some,oB_freshS]
  simp only [List.map_cons,List.map_nil,List.length_cons,List.length_nil,Nat.reduceAdd,Nat.zero_add]
  have nmx:∀ (l:List Bx),namesObj (some (rowG 5 encX l))=[]:=fun l=>by rw [rowG_eq,nm_row,nm_map]
  cases hst:stA t n with
  | true =>
   have hx:rnewX t prios n=zBx:=if_pos hst
   have ez:encX zBx=.agg [I 0,I 0,.sc (.slice none 0 0),.sc (.slice none 0 0),.sc (.slice none 0 0)]:=rfl
   rw [hx] at hk
   with_reducible refine @ks hst _ nn hn2 _ ?_
   rw [ez]
   have pu:AObj.row 5 ((o.map encX).map .t++[.t (.agg [I 0,I 0,.sc (.slice none 0 0),.sc (.slice none 0 0),.sc (.slice none 0 0)])]) 0=rowG 5 encX (o++[zBx]):=rowG_push (k:=5) (enc:=encX) (l:=o) (x:=zBx)
   (repeat' first|simp only [il13l0_go,il13l0b,freshKS_app,freshK_app,List.replicate_succ,List.replicate_zero,List.drop_succ_cons,List.drop_zero,List.cons_append,List.nil_append,go_sem,hs,hlt,hw,hroom,is1,rowG_es,rowG_mr,pu,frz_rowX]|(with_reducible first|apply wD|apply wT|(apply wM; intro)|(apply wL; intro))|((with_reducible first|refine wA ?_ ?_|refine wE ?_); rfl))
   all_goals (refine hk _ _ ⟨?_,by simp [ho],?_⟩ <;> simp only [go_sem,hs,hw,List.length_append])
  | false =>
   have hx:rnewX t prios n=⟨false,false,false,true,rnewB t prios n⟩:=if_neg (by rw [hst]; simp)
   rw [hx] at hk
   have fzX:=fun (hx:Heap) h7 h9 h12=>frzObj_newX (o:=o) (frz_newX (hx:=hx) (p:=prios[n]?.getD 0) (n:=(n:Nat)) (P:=(trunkL t n).map ofN) (C:=costL t n) (k:=(trunkL t n).length) (by simp) (by simp [costL]) h7 h9 h12)
   have hB:(⟨prios[n]?.getD 0,(n:Nat),(trunkL t n).map ofN,costL t n,List.replicate (trunkL t n).length zH⟩:Br)=rnewB t prios n:=by simp [rnewB,newB]
   rw [hB] at fzX
   with_reducible refine @kt hst _ nn hn2 _ ?_
   generalize (trunkL t (n:Nat)).map ofN=P at *
   generalize costL t (n:Nat)=C at *
   generalize (trunkL t (n:Nat)).length=k at *
   generalize prios[n]?.getD 0=pr at *
   generalize rnewB t prios n=X at *
   have pl0:∀ (l:List Int),plainVs ((l.map I).map AV.t)=true:=fun l=>by
    induction l with
    | nil=>exact plVs_nil
    | cons a l ih=>rw [List.map_cons,List.map_cons,plVs_cons,ih,plV_t]; rfl
   have pl8:∀ k,plainVs (List.replicate k (AV.t (encH zH)))=true:=fun k=>by
    induction k with
    | zero=>exact plVs_nil
    | succ k ih=>rw [List.replicate_succ,plVs_cons,ih,plV_t]; rfl
   have pv:plainV (.agg [.t (I pr),.t (I (n:Nat)),.ms 7 k 0 k 1 false,.ms 9 k 0 k 1 false,.ms 12 k 0 k 8 true])=true:=by simp [plainV,plainVs,T.plain]
   have po:plainObjs [.row 5 [.agg [.t (I pr),.t (I (n:Nat)),.ms 7 k 0 k 1 false,.ms 9 k 0 k 1 false,.ms 12 k 0 k 8 true]] 1,rowG 1 I P,.row 1 [] 0,rowG 1 I C,.row 8 [] 0,.row 5 [.agg [.t (I pr),.t (I (n:Nat)),.ms 7 k 0 k 1 false,.ms 9 k 0 k 1 false,.ms 12 k 0 k 8 true]] 1,.row 8 (List.replicate k (.t (encH zH))) 0]=true:=by
    simp only [rowG,plainObjs,pl0,pl8,plVs_cons,plVs_nil,pv,Bool.and_self]
   have pa:avoid (belowB 6) (.agg [.t (I pr),.t (I (n:Nat)),.ms 7 k 0 k 1 false,.ms 9 k 0 k 1 false,.ms 12 k 0 k 8 true])=true:=by simp [avoid,avoidAll,belowB]
   have pb:∀ (l:List Int),avoidObj (belowB 6) (rowG 1 I l)=true:=fun l=>by simp only [rowG,avoidObj,av_map]
   have pr8:∀ q,avoidAll q (List.replicate k (AV.t (encH zH)))=true:=fun q=>by
    rw [show List.replicate k (AV.t (encH zH))=(List.replicate k (encH zH)).map AV.t by simp]; exact av_map
   (repeat' first|simp only [il13l0_go,il13l0b,freshKS_app,freshK_app,List.replicate_succ,List.replicate_zero,List.drop_succ_cons,List.drop_zero,List.cons_append,List.nil_append,go_sem,hs,hlt,hw,hroom,pv,po,pa,pb,pr8,is1,rowG_es,rowG_mr,fzX,frz_rowX]|(with_reducible first|apply wD|apply wT|(apply wM; intro)|(apply wL; intro))|((with_reducible first|refine wA ?_ ?_|refine wE ?_); rfl))
   all_goals (refine hk _ _ ⟨?_,by simp [ho],?_⟩ <;> simp only [go_sem,hs,hw,List.length_append])
 ·intro o e hh Y R hlt ⟨hs,ho,hhe⟩ hk
  subst hhe
  have hlt:decide ((N:Int) < t.nodes)=false:=by rw [← hN]; exact hlt
  (repeat' first|simp only [il13l0_go,il13l0b,go_sem,hs,hlt]|(with_reducible first|apply wD|apply wT|(apply wM; intro)|(apply wL; intro))|((with_reducible first|refine wA ?_ ?_|refine wE ?_); rfl))
  all_goals (refine hk _ _ _ ⟨?_,rfl,ho,rfl⟩; simp only [go_sem,hs,id])
 ·refine ⟨?_,rfl,rfl⟩
  simp only [go_sem]
 ·intro x e hh ⟨h1,h2,ho,h3⟩
  have hf:∀ (k i:Nat) (o:List Bx),foldC (ρ:=List Bx) (fun n (_:Unit) o=>Ctl.go (o++[rnewX t prios n])) id i (List.replicate k ()) o=o++(List.range' i k).map (rnewX t prios):=by
   intro k
   induction k with
   | zero=>intro i o; simp [foldC]
   | succ k ih=>intro i o; rw [List.replicate_succ,foldC_go (s':=o++[rnewX t prios i]) rfl,ih,List.range'_succ]; simp
  rw [hf,List.nil_append,← List.range_eq_range'] at h3 ho
  rw [hNt]
  generalize (List.range N).map (rnewX t prios)=bs at *
  subst h2 h3
  have is1:rowIs 5 bs.length (some (rowG 5 encX bs)):=rowG_is
  (repeat' first|simp only [il13c,go_sem,h1,hdl,is1,rowG_es,rowG_mr]|(with_reducible first|apply wD|apply wT|(apply wM; intro)|(apply wL; intro))|((with_reducible first|refine wA ?_ ?_|refine wE ?_); rfl))
end Go.Proofs.YtbibdnlbpjnieaaGreat
namespace Go.Proofs.YtbibdnlbpjnieaaGreat
open Go Go.Abs
def trP (t:Tpo) (p:Nat):Prop:=p < 2*t.links.length∧stA t (frP t p).toNat=false∧stA t (toP t p).toNat=false
theorem trP_mem {t:Tpo} {p:Nat} (h:trP t p):p∈trunkL t (frP t p):=mem_trunk.2 ⟨h.1,rfl,h.2.2⟩
theorem trP_bk {t:Tpo} {p:Nat} (h:trP t p):trP t (bk p):=⟨bk_lt h.1,by rw [bk_fr]; exact h.2.2,by rw [bk_to]; exact h.2.1⟩
theorem trP_of {t:Tpo} {n:Nat} {p:Nat} (hs:stA t n=false) (h:p∈trunkL t (n:Nat)):trP t p:=by
 obtain ⟨h1,h2,h3⟩:=mem_trunk.1 h
 exact ⟨h1,by rw [h2]; simpa using hs,h3⟩
def bsA (bs:List Bx) (n:Nat):Br:=(bs[n]?.getD zBx).b
def hAt (t:Tpo) (bs:List Bx) (p:Nat):Hd:=hrd (bsA bs (frP t p).toNat) (ixP t p)
def sntP (t:Tpo) (bs:List Bx) (p:Nat):Hd:=sentF (bsA bs (frP t p).toNat) (opF (bsA bs (frP t p).toNat)).t (ixP t p)
theorem ixP_inj {t:Tpo} {p q:Nat} (hp:trP t p) (hq:trP t q) (hf:frP t p=frP t q) (hi:ixP t p=ixP t q):p=q:=by
 have h1:=(ixP_spec (trP_mem hp)).2.1
 have h2:=(ixP_spec (trP_mem hq)).2.1
 rw [hf,hi] at h1
 rw [h1] at h2
 exact Option.some.inj h2
theorem ixP_at {t:Tpo} {n:Nat} {i p:Nat} (h:(trunkL t (n:Nat))[i]? = some p):ixP t p=i:=by
 have hm:=List.mem_of_getElem? h
 have hf:frP t p=(n:Nat):=(mem_trunk.1 hm).2.1
 rw [← hf] at hm h
 obtain ⟨h1,h2,_⟩:=ixP_spec hm
 have hs:=trunk_sorted t (frP t p)
 obtain ⟨hi,hx⟩:=List.getElem?_eq_some_iff.1 h
 obtain ⟨hj,hy⟩:=List.getElem?_eq_some_iff.1 h2
 rw [List.pairwise_iff_getElem] at hs
 rcases Nat.lt_trichotomy (ixP t p) i with h|h|h
 ·have:=hs _ _ hj hi h; omega
 ·exact h
 ·have:=hs _ _ hi hj h; omega
section
variable {w:Nw} (hok:okT w.t=true) (hbl:(w.bs.length:Int)=w.t.nodes)
include hok hbl
theorem vBs_at {bs:List Bx} (hv:vBs w bs) {p:Nat} (hp:trP w.t p):∃ n x,frP w.t p=((n:Nat):Int)∧n < w.bs.length∧bs[n]? = some x∧bsA bs n=x.b∧x.z=false∧VB w n x.b∧x.b.heard.length=(trunkL w.t n).length∧ixP w.t p < x.b.heard.length:=by
 have hn:=frP_node hok hp.1
 obtain ⟨h1,h2⟩:=hn
 have hlt:(frP w.t p).toNat < bs.length:=by rw [hv.1]; omega
 refine ⟨(frP w.t p).toNat,bs[(frP w.t p).toNat],by omega,by omega,by simp [hlt],by simp [bsA,hlt],?_⟩
 have h3:=hv.2 _ bs[(frP w.t p).toNat] (by simp [hlt]) hp.2.1
 obtain ⟨h4,h5⟩:=h3
 have h6:=okB_len h5.ok
 simp only [okL] at h6
 have h7:(bs[(frP w.t p).toNat]).b.ports.length=(trunkL w.t ((frP w.t p).toNat:Nat)).length:=by rw [h5.ports]; simp
 have h8:=(ixP_spec (trP_mem hp)).1
 have h9:(((frP w.t p).toNat:Nat):Int)=frP w.t p:=by omega
 refine ⟨h4,h5,by omega,?_⟩
 rw [h9] at h7
 omega
theorem rcvP_at {bs:List Bx} (hv:vBs w bs) {p q:Nat} (hp:trP w.t p) (hq:trP w.t q) (m:Hd) :
  hAt w.t (rcvP w bs p m) q=if (m.is=true∧dnA w (p / 2)=false)∧q=bk p then rcvH (hAt w.t bs q) m else hAt w.t bs q:=by
 unfold rcvP
 by_cases hc:m.is=true∧dnA w (p / 2)=false
 ·rw [if_pos hc]
  obtain ⟨n,x,h1,h2,h3,h4,h5,h6,h7,h8⟩:=vBs_at hok hbl hv hq
  obtain ⟨n',x',k1,k2,k3,k4,k5,k6,k7,k8⟩:=vBs_at hok hbl hv (trP_bk hp)
  rw [bk_fr] at k1
  have hx':(bs[(toP w.t p).toNat]?.getD zBx).b=x'.b:=by rw [k1,Int.toNat_natCast,k3]; rfl
  rw [hx',k1,Int.toNat_natCast]
  by_cases hn:n=n'
  ·subst hn
   have hxx:x=x':=by rw [h3] at k3; exact Option.some.inj k3
   subst hxx
   have hlt:n < bs.length:=(List.getElem?_eq_some_iff.1 h3).1
   have e1:bsA (bs.set n (rcvB x.b (ixP w.t (bk p)) m)) n=putB x.b (x.b.heard.set (ixP w.t (bk p)) (rcvH (hrd x.b (ixP w.t (bk p))) m)):=by simp [bsA,hlt,rcvB]
   by_cases hqp:q=bk p
   ·rw [if_pos ⟨hc,hqp⟩]
    subst hqp
    simp only [hAt,h1,Int.toNat_natCast,e1,h4]
    simp [hrd,putB,k8]
   ·rw [if_neg (fun h=>hqp h.2)]
    have hne:ixP w.t (bk p)≠ixP w.t q:=fun h=>hqp (ixP_inj hq (trP_bk hp) (by rw [h1,bk_fr,k1]) h.symm)
    simp only [hAt,h1,Int.toNat_natCast,e1,h4]
    simp only [hrd,putB]
    rw [List.getElem?_set_ne hne]
  ·have hqp:q≠bk p:=fun h=>hn (by rw [h,bk_fr,k1] at h1; omega)
   rw [if_neg (fun h=>hqp h.2)]
   simp only [hAt,h1,Int.toNat_natCast,bsA]
   rw [List.getElem?_set_ne (fun h=>hn h.symm)]
 ·rw [if_neg hc,if_neg (fun h=>hc h.1)]
omit hok hbl in
theorem rcvP_st {bs:List Bx} {p:Nat} (hp:trP w.t p) (m:Hd) {n:Nat} (hn:stA w.t n=true):(rcvP w bs p m)[n]? = bs[n]?:=by
 unfold rcvP
 split
 ·rw [List.getElem?_set_ne]
  intro h
  rw [← h,hp.2.2] at hn
  cases hn
 ·rfl
theorem rcv_fold (snt:Nat→Hd) (hs:∀ p,trP w.t p→(snt p).is=true→helloP (snt p)):∀ (l:List Nat),l.Pairwise (· ≠ ·)→(∀ p∈l,trP w.t p)→∀ bs,vBs w bs →
  vBs w (l.foldl (fun s p=>rcvP w s p (snt p)) bs)∧(∀ n,stA w.t n=true→(l.foldl (fun s p=>rcvP w s p (snt p)) bs)[n]? = bs[n]?) ∧
  ∀ q,trP w.t q→hAt w.t (l.foldl (fun s p=>rcvP w s p (snt p)) bs) q=if bk q∈l∧(snt (bk q)).is=true∧dnA w (q / 2)=false then rcvH (hAt w.t bs q) (snt (bk q)) else hAt w.t bs q:=by
 intro l
 induction l with
 | nil=>intro _ _ bs hv; exact ⟨hv,fun _ _=>rfl,fun q _=>by rw [if_neg (fun h=>by cases h.1)]; rfl⟩
 | cons p l ih =>
  intro hnd hm bs hv
  rw [List.pairwise_cons] at hnd
  have hp:=hm p (by simp)
  have hv2:=rcvP_ok hv (hs p hp) hp.2.2
  obtain ⟨i1,i2,i3⟩:=ih hnd.2 (fun q hq=>hm q (by simp [hq])) (rcvP w bs p (snt p)) hv2
  rw [List.foldl_cons]
  refine ⟨i1,fun n hn=>by rw [i2 n hn,rcvP_st hp _ hn],fun q hq=>?_⟩
  rw [i3 q hq,rcvP_at hok hbl hv hp hq]
  by_cases hqp:q=bk p
  ·have hb:bk q=p:=by rw [hqp,bk_bk]
   have hnl:bk q ∉ l:=fun h=>hnd.1 _ h hb.symm
   rw [if_neg (fun h=>hnl h.1)]
   have hh:p / 2=q / 2:=by rw [← hb,bk_half]
   by_cases hc:(snt p).is=true∧dnA w (p / 2)=false
   ·rw [if_pos ⟨hc,hqp⟩,if_pos ⟨by rw [hb]; simp,by rw [hb,← hh]; exact hc⟩,hb]
   ·rw [if_neg (fun h=>hc h.1),if_neg (fun h=>hc (by rw [hb,← hh] at h; exact h.2))]
  ·have hb:bk q≠p:=fun h=>hqp (by rw [← h,bk_bk])
   rw [if_neg (c:=(_∧_)∧q=bk p) (fun h=>hqp h.2)]
   by_cases hc:bk q∈l∧(snt (bk q)).is=true∧dnA w (q / 2)=false
   ·rw [if_pos hc,if_pos ⟨by simp [hc.1],hc.2⟩]
   ·rw [if_neg hc,if_neg (fun h=>hc ⟨by have:=h.1; rw [List.mem_cons] at this; exact this.resolve_left hb,h.2⟩)]
omit hok hbl in
theorem fold_get {σ:Type} (g:σ→Nat→Nat→σ) (f:σ→Nat→σ) (l:List Nat) (h:∀ s i p,l[i]? = some p→g s i p=f s p) (s:σ):(List.range l.length).foldl (fun s i=>g s i (l[i]?.getD 0)) s=l.foldl f s:=by
 have e:l=(List.range l.length).map (fun i=>l[i]?.getD 0):=by
  apply List.ext_getElem
  ·simp
  ·intro i h1 h2; simp [h1]
 conv=>rhs; rw [e,List.foldl_map]
 refine foldl_eq _ _ (fun s i hi=>?_)
 have hi:=List.mem_range.1 hi
 have:l[i]? = some l[i]:=by simp [hi]
 rw [this]
 exact h s i _ this
omit hok hbl in
theorem fold_flat {σ:Type} {f:σ→Nat→σ} {g:σ→Nat→σ} {h:Nat→List Nat}:∀ (l:List Nat) (s:σ),(∀ s,∀ n∈l,f s n=(h n).foldl g s)→l.foldl f s=(l.flatMap h).foldl g s:=by
 intro l
 induction l with
 | nil=>intro s _; rfl
 | cons n l ih =>
  intro s hf
  rw [List.foldl_cons,List.flatMap_cons,List.foldl_append,ih _ (fun s m hm=>hf s m (by simp [hm])),hf s n (by simp)]
omit hok hbl in
theorem rcvL_eq {bs0:List Bx} (hv:vBs w bs0) {n:Nat} (hn:n < w.bs.length) (hst:stA w.t n=false) (bs:List Bx):rcvL w (sentW w bs0) bs n=(trunkL w.t n).foldl (fun s p=>rcvP w s p (sntP w.t bs0 p)) bs:=by
 have hS:(sentW w bs0)[n]? = some (some (sends (bsA bs0 n))):=by
  rw [sentW,List.getElem?_map,List.getElem?_range hn,Option.map_some,sentAt,if_neg (by rw [hst]; simp)]; rfl
 obtain ⟨x,hx⟩:∃ x,bs0[n]? = some x:=⟨bs0[n]'(by rw [hv.1]; exact hn),by simp [hv.1,hn]⟩
 obtain ⟨_,hb⟩:=hv.2 n x hx hst
 have hbx:bsA bs0 n=x.b:=by simp [bsA,hx]
 rw [rcvL,hS]
 simp only [Option.getD_some]
 have hl:(sends (bsA bs0 n)).length=(trunkL w.t n).length:=by rw [hbx,sends]; simp [hb.ports]
 rw [hl]
 refine fold_get (fun s i p=>rcvP w s p ((sends (bsA bs0 n))[i]?.getD zH)) _ _ (fun s i p hp=>?_) bs
 have hm:=mem_trunk.1 (List.mem_of_getElem? hp)
 have hi:i < (trunkL w.t n).length:=(List.getElem?_eq_some_iff.1 hp).1
 have hpl:i < (bsA bs0 n).ports.length:=by rw [hbx,hb.ports]; simpa using hi
 have:(sends (bsA bs0 n))[i]?.getD zH=sntP w.t bs0 p:=by
  rw [sntP,hm.2.1,Int.toNat_natCast,ixP_at hp]
  simp [sends,hpl]
 simp only [this]
def trunkAll (w:Nw):List Nat:=(List.range w.bs.length).flatMap (fun n=>if stA w.t n=true then [] else trunkL w.t n)
theorem mem_trunkAll {p:Nat}:p∈trunkAll w↔trP w.t p:=by
 simp only [trunkAll,List.mem_flatMap,List.mem_range]
 constructor
 ·rintro ⟨n,hn,h⟩
  split at h
  ·cases h
  ·rename_i hs
   exact trP_of (by simpa using hs) h
 ·intro h
  have hn:=frP_node hok h.1
  obtain ⟨h1,h2⟩:=hn
  refine ⟨(frP w.t p).toNat,by omega,?_⟩
  rw [if_neg (by rw [h.2.1]; simp)]
  have:=trP_mem h
  rwa [show (((frP w.t p).toNat:Nat):Int)=frP w.t p by omega]
omit hok hbl in
theorem trunkAll_nodup:(trunkAll w).Pairwise (· ≠ ·):=by
 rw [trunkAll,List.pairwise_flatMap]
 refine ⟨fun n _=>?_,?_⟩
 ·split
  ·exact .nil
  ·exact (trunk_sorted w.t n).imp (fun h=>by omega)
 ·refine List.pairwise_lt_range.imp (fun {a b} hab x hx y hy=>?_)
  split at hx
  ·cases hx
  split at hy
  ·cases hy
  have h1:=(mem_trunk.1 hx).2.1
  have h2:=(mem_trunk.1 hy).2.1
  intro he
  rw [he,h2] at h1
  omega
omit hok hbl in
theorem tk_fold (bs:List Bx):∀ k,k≤bs.length→((List.range k).foldl (stS w.t tkL) bs).length=bs.length∧∀ n,((List.range k).foldl (stS w.t tkL) bs)[n]? = if n < k∧stA w.t n=false then (bs[n]?).map (fun x=>tkB x.b) else bs[n]?:=by
 intro k
 induction k with
 | zero=>intro _; exact ⟨rfl,fun n=>by rw [if_neg (fun h=>by omega)]; rfl⟩
 | succ k ih =>
  intro hk
  obtain ⟨i1,i2⟩:=ih (by omega)
  rw [List.range_succ,List.foldl_append,List.foldl_cons,List.foldl_nil]
  generalize (List.range k).foldl (stS w.t tkL) bs=S at *
  unfold stS
  by_cases hs:stA w.t k=true
  ·rw [if_pos hs]
   refine ⟨i1,fun n=>?_⟩
   rw [i2 n]
   by_cases hn:n=k
   ·subst hn; rw [if_neg (fun h=>by omega),if_neg (fun h=>by rw [hs] at h; cases h.2)]
   ·have:(n < k+1∧stA w.t n=false)↔(n < k∧stA w.t n=false):=by constructor <;> rintro ⟨h1,h2⟩ <;> exact ⟨by omega,h2⟩
    simp only [this]
  ·rw [if_neg hs]
   have hs':stA w.t k=false:=by simpa using hs
   refine ⟨by simp [tkL,i1],fun n=>?_⟩
   by_cases hn:n=k
   ·subst hn
    have h0:=i2 n
    rw [if_neg (fun h=>by omega)] at h0
    rw [if_pos ⟨by omega,hs'⟩,tkL,List.getElem?_set_self (by omega),h0]
    have:n < bs.length:=by omega
    simp [this]
   ·rw [tkL,List.getElem?_set_ne (fun h=>hn h.symm),i2 n]
    have:(n < k+1∧stA w.t n=false)↔(n < k∧stA w.t n=false):=by constructor <;> rintro ⟨h1,h2⟩ <;> exact ⟨by omega,h2⟩
    simp only [this]
omit hok hbl in
theorem tick_hrd (b:Br) (i:Nat):hrd (putB b (b.heard.map tickH)) i=tickH (hrd b i):=by
 simp only [hrd,putB,List.getElem?_map]
 cases b.heard[i]? with
 | none=>rfl
 | some x=>rfl
theorem rnd_at {bs:List Bx} (hv:vBs w bs):vBs w (rndL w bs)∧(∀ n,stA w.t n=true→(rndL w bs)[n]? = bs[n]?) ∧
  ∀ q,trP w.t q→hAt w.t (rndL w bs) q=tickH (if (sntP w.t bs (bk q)).is=true∧dnA w (q / 2)=false then rcvH (hAt w.t bs q) (sntP w.t bs (bk q)) else hAt w.t bs q):=by
 have hsnt:∀ p,trP w.t p→(sntP w.t bs p).is=true→helloP (sntP w.t bs p):=by
  intro p hp hi
  obtain ⟨n,x,h1,h2,h3,h4,h5,h6,h7,h8⟩:=vBs_at hok hbl hv hp
  have h9:=okB_len h6.ok
  simp only [okL] at h9
  simp only [sntP,h1,Int.toNat_natCast,h4] at hi ⊢
  unfold sentF at hi ⊢
  split at hi
  ·rename_i h; rw [if_pos h]; exact clm_ok h6.ok (by omega)
  ·exact (by cases hi)
 have e1:(List.range w.bs.length).foldl (stS w.t (rcvL w (sentW w bs))) bs=(trunkAll w).foldl (fun s p=>rcvP w s p (sntP w.t bs p)) bs:=by
  refine fold_flat _ _ (fun s n hn=>?_)
  unfold stS
  by_cases hs:stA w.t n=true
  ·rw [if_pos hs,if_pos hs]; rfl
  ·rw [if_neg hs,if_neg hs]
   exact rcvL_eq hv (List.mem_range.1 hn) (by simpa using hs) s
 obtain ⟨r1,r2,r3⟩:=rcv_fold hok hbl (sntP w.t bs) hsnt (trunkAll w) trunkAll_nodup (fun p hp=>(mem_trunkAll hok hbl).1 hp) bs hv
 rw [← e1] at r1 r2 r3
 have e2:rndL w bs=(List.range w.bs.length).foldl (stS w.t tkL) ((List.range w.bs.length).foldl (stS w.t (rcvL w (sentW w bs))) bs):=rfl
 rw [e2]
 generalize (List.range w.bs.length).foldl (stS w.t (rcvL w (sentW w bs))) bs=B1 at *
 obtain ⟨t1,t2⟩:=tk_fold (w:=w) B1 w.bs.length (by rw [r1.1]; exact Nat.le_refl _)
 have hv2:vBs w ((List.range w.bs.length).foldl (stS w.t tkL) B1):=by
  refine ⟨by rw [t1,r1.1],fun n x hx hs=>?_⟩
  rw [t2 n] at hx
  have hn:n < w.bs.length:=by
   refine Classical.byContradiction fun hn=>?_
   rw [if_neg (fun h=>hn h.1),List.getElem?_eq_none (by rw [r1.1]; omega)] at hx
   cases hx
  rw [if_pos ⟨hn,hs⟩,Option.map_eq_some_iff] at hx
  obtain ⟨y,hy,rfl⟩:=hx
  exact ⟨rfl,(r1.2 n y hy hs).2.tick⟩
 refine ⟨hv2,fun n hn=>?_,fun q hq=>?_⟩
 ·rw [t2 n,if_neg (fun h=>by rw [hn] at h; cases h.2),r2 n hn]
 ·obtain ⟨n,x,h1,h2,h3,h4,h5,h6,h7,h8⟩:=vBs_at hok hbl r1 hq
  have hst:stA w.t n=false:=by have:=hq.2.1; rwa [h1,Int.toNat_natCast] at this
  have h9:=r3 q hq
  have:(bk q∈trunkAll w∧(sntP w.t bs (bk q)).is=true∧dnA w (q / 2)=false)↔((sntP w.t bs (bk q)).is=true∧dnA w (q / 2)=false):=⟨fun h=>h.2,fun h=>⟨(mem_trunkAll hok hbl).2 (trP_bk hq),h⟩⟩
  simp only [this] at h9
  rw [← h9]
  simp only [hAt,h1,Int.toNat_natCast]
  have e3:bsA ((List.range w.bs.length).foldl (stS w.t tkL) B1) n=putB x.b (x.b.heard.map tickH):=by
   rw [bsA,t2 n,if_pos ⟨h2,hst⟩,h3]; rfl
  rw [e3,tick_hrd,h4]
end
end Go.Proofs.YtbibdnlbpjnieaaGreat
namespace Go.Proofs.YtbibdnlbpjnieaaGreat
open Go Go.Abs
structure VN (w:Nw):Prop where
 t:okT w.t=true
 rank:rankL w.t w.prios=true
 bl:(w.bs.length:Int)=w.t.nodes
 dl:w.down.length=w.t.links.length
 vb:vBs w w.bs
 qt:∀ q,trP w.t q→dnA w (q / 2)=true→(hAt w.t w.bs q).is=false
 st:∀ n x,w.bs[n]? = some x→stA w.t n=true→emptyB x.b=true∧(x.z=true→x.b=zBr)
theorem VN.ok {w:Nw} (h:VN w):okN w=true:=by
 simp only [okN,Bool.and_eq_true]
 refine ⟨h.t,h.rank,decide_eq_true h.bl,decide_eq_true h.dl,?_⟩
 rw [List.all_eq_true]
 intro n hn
 have hn:=List.mem_range.1 hn
 obtain ⟨x,hx⟩:∃ x,w.bs[n]? = some x:=⟨w.bs[n],by simp [hn]⟩
 have hbx:bxA w n=x:=by simp [bxA,hx]
 unfold soundN
 rw [hbx]
 by_cases hs:stA w.t n=true
 ·rw [if_pos hs]; exact (h.st n x hx hs).1
 ·rw [if_neg hs]
  have hs':stA w.t n=false:=by simpa using hs
  obtain ⟨h1,h2⟩:=h.vb.2 n x hx hs'
  simp only [Bool.and_eq_true]
  refine ⟨h2.ok,decide_eq_true ⟨h2.ip,h2.id⟩,decide_eq_true h2.ports,decide_eq_true h2.costs,?_⟩
  rw [quietB,List.all_eq_true]
  intro i hi
  have hi:=List.mem_range.1 hi
  have hp:(trunkL w.t (n:Nat))[i]? = some (trunkL w.t (n:Nat))[i]:=by simp [hi]
  rw [hp]
  generalize (trunkL w.t (n:Nat))[i]=p at hp
  have hm:=List.mem_of_getElem? hp
  have htr:=trP_of hs' hm
  have hq:=h.qt p htr
  have hf:=(mem_trunk.1 hm).2.1
  rw [hAt,hf,Int.toNat_natCast,ixP_at hp] at hq
  have:bsA w.bs n=x.b:=by simp [bsA,hx]
  rw [this] at hq
  simp only [Option.getD_some]
  cases hd:dnA w (p / 2) with
  | false=>rfl
  | true=>rw [hq hd]; rfl
theorem VN.z {w:Nw} (h:VN w):zOk w:=by
 intro n hn hz
 obtain ⟨x,hx⟩:∃ x,w.bs[n]? = some x:=⟨w.bs[n],by simp [hn]⟩
 have hbx:bxA w n=x:=by simp [bxA,hx]
 rw [hbx] at hz ⊢
 by_cases hs:stA w.t n=true
 ·exact ⟨hs,(h.st n x hx hs).2 hz⟩
 ·have:=(h.vb.2 n x hx (by simpa using hs)).1
  rw [this] at hz; cases hz
theorem VN.of {w:Nw} (h:okN w=true) (hz:zOk w):VN w:=by
 have hO:=okN_ok h hz
 simp only [okN,Bool.and_eq_true] at h
 obtain ⟨_,_,_,_,h5⟩:=h
 have hso:∀ n x,w.bs[n]? = some x→soundN w n=true∧bxA w n=x:=by
  intro n x hx
  exact ⟨List.all_eq_true.1 h5 n (List.mem_range.2 (List.getElem?_eq_some_iff.1 hx).1),by simp [bxA,hx]⟩
 refine ⟨hO.t,hO.rank,hO.bl,hO.dl,hO.vb,fun q hq hd=>?_,fun n x hx hs=>?_⟩
 ·obtain ⟨n,x,h1,h2,h3,h4,h5,h6,h7,h8⟩:=vBs_at hO.t hO.bl hO.vb hq
  obtain ⟨k1,k2⟩:=hso n x h3
  have hst:stA w.t n=false:=by have:=hq.2.1; rwa [h1,Int.toNat_natCast] at this
  rw [soundN,if_neg (by rw [hst]; simp),k2] at k1
  simp only [Bool.and_eq_true] at k1
  have hqu:=k1.2.2.2.2
  rw [quietB,List.all_eq_true] at hqu
  have hix:=ixP_spec (trP_mem hq)
  have h9:=hqu (ixP w.t q) (List.mem_range.2 (by rw [← h1]; exact hix.1))
  rw [← h1,hix.2.1] at h9
  simp only [Option.getD_some,hd,Bool.true_and,Bool.not_eq_true'] at h9
  rw [hAt,h1,Int.toNat_natCast,h4]
  exact h9
 ·obtain ⟨k1,k2⟩:=hso n x hx
  rw [soundN,if_pos hs,k2] at k1
  refine ⟨k1,fun hz'=>?_⟩
  have:=hz n (List.getElem?_eq_some_iff.1 hx).1 (by rw [k2]; exact hz')
  rw [k2] at this
  exact this.2
theorem VN.b6 {w:Nw} (h:VN w):∀ x∈w.bs,x.b.ports.length≤900∧x.b.costs.length≤900∧x.b.heard.length≤900:=by
 intro x hx
 obtain ⟨n,hn⟩:=List.mem_iff_getElem?.1 hx
 by_cases hs:stA w.t n=true
 ·have:=(h.st n x hn hs).1
  simp only [emptyB,decide_eq_true_eq] at this
  omega
 ·have:=okB_len (h.vb.2 n x hn (by simpa using hs)).2.ok
  simp only [okL] at this
  omega
theorem vBs_mv {w w':Nw} {bs:List Bx} (h1:w'.t=w.t) (h2:w'.prios=w.prios) (h3:w'.bs.length=w.bs.length) (h:vBs w bs):vBs w' bs:=by
 refine ⟨by rw [h.1,h3],fun n x hx hs=>?_⟩
 rw [h1] at hs
 obtain ⟨a,b⟩:=h.2 n x hx hs
 refine ⟨a,b.ok,?_,b.id,?_,?_⟩
 ·rw [b.ip]; simp only [prA,h2]
 ·rw [b.ports,h1]
 ·rw [b.costs,h1]
theorem hAt_cpX (t:Tpo) (bs:List Bx) (q:Nat):hAt t (bs.map cpX) q=hAt t bs q:=by
 have:∀ n,bsA (bs.map cpX) n=bsA bs n:=by
  intro n
  simp only [bsA,List.getElem?_map]
  cases bs[n]? with
  | none=>rfl
  | some x=>simp only [Option.map_some,Option.getD_some,cpX]; split <;> rfl
 simp only [hAt,this]
theorem cpX_st {bs:List Bx} {P:Bx→Prop} (hP:∀ x,P x→P (cpX x)) {n:Nat} {x:Bx} (hx:(bs.map cpX)[n]? = some x) (h:∀ y,bs[n]? = some y→P y):P x:=by
 rw [List.getElem?_map,Option.map_eq_some_iff] at hx
 obtain ⟨y,hy,rfl⟩:=hx
 exact hP y (h y hy)
theorem cpX_P (x:Bx) (h:emptyB x.b=true∧(x.z=true→x.b=zBr)):emptyB (cpX x).b=true∧((cpX x).z=true→(cpX x).b=zBr):=by
 unfold cpX
 split
 ·exact h
 ·exact ⟨h.1,fun h=>(by cases h)⟩
def rndW (w:Nw):Nw:=⟨w.t,w.prios,w.down,rndL w (w.bs.map cpX)⟩
theorem VN.rnd {w:Nw} (h:VN w):VN (rndW w):=by
 have hv:=vBs_cpX h.vb
 obtain ⟨r1,r2,r3⟩:=rnd_at h.t h.bl hv
 have hl:(rndW w).bs.length=w.bs.length:=r1.1
 refine ⟨h.t,h.rank,?_,h.dl,vBs_mv (w:=w) rfl rfl hl r1,fun q hq hd=>?_,fun n x hx hs=>?_⟩
 ·show ((rndW w).bs.length:Int)=w.t.nodes
  rw [hl]; exact h.bl
 ·have h1:=r3 q hq
  have hd':dnA w (q / 2)=true:=hd
  rw [if_neg (fun h=>by rw [hd'] at h; cases h.2),hAt_cpX] at h1
  have h2:=h.qt q hq hd'
  show (hAt w.t (rndL w (w.bs.map cpX)) q).is=false
  rw [h1,tickH,if_pos h2,h2]
 ·have hx':(rndL w (w.bs.map cpX))[n]? = some x:=hx
  rw [r2 n hs] at hx'
  exact cpX_st (P:=fun x=>emptyB x.b=true∧(x.z=true→x.b=zBr)) cpX_P hx' (fun y hy=>h.st n y hy hs)
theorem fgL_at {w:Nw} (hok:okT w.t=true) (hbl:(w.bs.length:Int)=w.t.nodes) (j:Nat) {n:Nat} (hn:n < w.bs.length) (hst:stA w.t n=false) {bs:List Bx} (hv:vBs w bs) :
  vBs w (fgL w j bs n)∧(∀ m,m≠n→(fgL w j bs n)[m]? = bs[m]?)∧∀ q,trP w.t q→frP w.t q=(n:Nat)→hAt w.t (fgL w j bs n) q=if q / 2=j then zH else hAt w.t bs q:=by
 have key:∀ k,k≤(trunkL w.t n).length→vBs w ((List.range k).foldl (fun s i=>if ((trunkL w.t n)[i]?.getD 0) / 2=j then s.set n (fgB (s[n]?.getD zBx).b i) else s) bs)∧(∀ m,m≠n→((List.range k).foldl (fun s i=>if ((trunkL w.t n)[i]?.getD 0) / 2=j then s.set n (fgB (s[n]?.getD zBx).b i) else s) bs)[m]? = bs[m]?) ∧
   ∀ q,trP w.t q→frP w.t q=(n:Nat)→hAt w.t ((List.range k).foldl (fun s i=>if ((trunkL w.t n)[i]?.getD 0) / 2=j then s.set n (fgB (s[n]?.getD zBx).b i) else s) bs) q=if ixP w.t q < k∧q / 2=j then zH else hAt w.t bs q:=by
  intro k
  induction k with
  | zero=>intro _; exact ⟨hv,fun _ _=>rfl,fun q _ _=>by rw [if_neg (fun h=>by omega)]; rfl⟩
  | succ k ih =>
   intro hk
   obtain ⟨i1,i2,i3⟩:=ih (by omega)
   rw [List.range_succ,List.foldl_append,List.foldl_cons,List.foldl_nil]
   generalize (List.range k).foldl (fun s i=>if ((trunkL w.t n)[i]?.getD 0) / 2=j then s.set n (fgB (s[n]?.getD zBx).b i) else s) bs=S at *
   have hp:(trunkL w.t n)[k]? = some (trunkL w.t n)[k]:=by simp [show k < (trunkL w.t n).length by omega]
   generalize (trunkL w.t n)[k]=p at hp
   rw [hp]
   simp only [Option.getD_some]
   have hptr:=trP_of hst (List.mem_of_getElem? hp)
   have hpf:=(mem_trunk.1 (List.mem_of_getElem? hp)).2.1
   have hpi:=ixP_at hp
   by_cases hj:p / 2=j
   ·rw [if_pos hj]
    have hv2:vBs w (S.set n (fgB (S[n]?.getD zBx).b k)):=by
     have:=(fgQ_ok (w:=w) (j:=j) (n:=n) (i:=k) (p:=p) (s:=(S,0)) i1 (Nat.zero_le _) hst).1
     rw [fgQ,if_pos hj] at this
     exact this
    refine ⟨hv2,fun m hm=>by rw [List.getElem?_set_ne (fun h=>hm h.symm),i2 m hm],fun q hq hf=>?_⟩
    obtain ⟨n',x,h1,h2,h3,h4,h5,h6,h7,h8⟩:=vBs_at hok hbl i1 hq
    rw [hf] at h1
    obtain rfl:n=n':=by omega
    have hlt:n < S.length:=(List.getElem?_eq_some_iff.1 h3).1
    have e1:bsA (S.set n (fgB (S[n]?.getD zBx).b k)) n=putB x.b (x.b.heard.set k zH):=by rw [bsA,List.getElem?_set_self hlt,h3]; rfl
    have h9:=i3 q hq hf
    rw [hAt,hf,Int.toNat_natCast,h4] at h9
    rw [hAt,hf,Int.toNat_natCast,e1]
    by_cases hqk:ixP w.t q=k
    ·have hqp:q=p:=ixP_inj hq hptr (by rw [hf,hpf]) (by rw [hqk,hpi])
     rw [if_pos ⟨by omega,by rw [hqp]; exact hj⟩]
     rw [hqk] at h8 ⊢
     simp [hrd,putB,h8]
    ·have e2:hrd (putB x.b (x.b.heard.set k zH)) (ixP w.t q)=hrd x.b (ixP w.t q):=by
      simp only [hrd,putB]
      rw [List.getElem?_set_ne (fun h=>hqk h.symm)]
     rw [e2,h9]
     have:(ixP w.t q < k+1∧q / 2=j)↔(ixP w.t q < k∧q / 2=j):=by constructor <;> rintro ⟨h1,h2⟩ <;> exact ⟨by omega,h2⟩
     simp only [this]
   ·rw [if_neg hj]
    refine ⟨i1,i2,fun q hq hf=>?_⟩
    rw [i3 q hq hf]
    by_cases hqk:ixP w.t q=k
    ·have hqp:q=p:=ixP_inj hq hptr (by rw [hf,hpf]) (by rw [hqk,hpi])
     rw [if_neg (fun h=>hj (by rw [← hqp]; exact h.2)),if_neg (fun h=>hj (by rw [← hqp]; exact h.2))]
    ·have:(ixP w.t q < k+1∧q / 2=j)↔(ixP w.t q < k∧q / 2=j):=by constructor <;> rintro ⟨h1,h2⟩ <;> exact ⟨by omega,h2⟩
     simp only [this]
 obtain ⟨k1,k2,k3⟩:=key _ (Nat.le_refl _)
 refine ⟨k1,k2,fun q hq hf=>?_⟩
 have:=k3 q hq hf
 have hix:=(ixP_spec (trP_mem hq)).1
 rw [hf] at hix
 simp only [hix,true_and] at this
 exact this
theorem cut_at {w:Nw} (h:VN w) (j:Nat):vBs w (cutL w j)∧(∀ n,stA w.t n=true→(cutL w j)[n]? = (w.bs.map cpX)[n]?)∧∀ q,trP w.t q→hAt w.t (cutL w j) q=if q / 2=j then zH else hAt w.t w.bs q:=by
 have hv:=vBs_cpX h.vb
 have key:∀ k,k≤w.bs.length→vBs w ((List.range k).foldl (stS w.t (fgL w j)) (w.bs.map cpX))∧(∀ n,stA w.t n=true→((List.range k).foldl (stS w.t (fgL w j)) (w.bs.map cpX))[n]? = (w.bs.map cpX)[n]?) ∧
   ∀ q,trP w.t q→hAt w.t ((List.range k).foldl (stS w.t (fgL w j)) (w.bs.map cpX)) q=if (frP w.t q < (k:Nat))∧q / 2=j then zH else hAt w.t w.bs q:=by
  intro k
  induction k with
  | zero =>
   intro _
   refine ⟨hv,fun _ _=>rfl,fun q hq=>?_⟩
   have:=(frP_node h.t hq.1).1
   rw [if_neg (fun h=>by omega)]
   exact hAt_cpX _ _ _
  | succ k ih =>
   intro hk
   obtain ⟨i1,i2,i3⟩:=ih (by omega)
   rw [List.range_succ,List.foldl_append,List.foldl_cons,List.foldl_nil]
   generalize (List.range k).foldl (stS w.t (fgL w j)) (w.bs.map cpX)=S at *
   unfold stS
   by_cases hs:stA w.t k=true
   ·rw [if_pos hs]
    refine ⟨i1,i2,fun q hq=>?_⟩
    rw [i3 q hq]
    have hne:frP w.t q≠(k:Nat):=fun h=>by have:=hq.2.1; rw [h,Int.toNat_natCast,hs] at this; cases this
    have:(frP w.t q < ((k+1:Nat):Int)∧q / 2=j)↔(frP w.t q < (k:Nat)∧q / 2=j):=by constructor <;> rintro ⟨h1,h2⟩ <;> exact ⟨by omega,h2⟩
    simp only [this]
   ·rw [if_neg hs]
    have hs':stA w.t k=false:=by simpa using hs
    obtain ⟨f1,f2,f3⟩:=fgL_at h.t h.bl j (show k < w.bs.length by omega) hs' i1
    refine ⟨f1,fun n hn=>by rw [f2 n (fun h=>by rw [h,hs'] at hn; cases hn),i2 n hn],fun q hq=>?_⟩
    by_cases hf:frP w.t q=(k:Nat)
    ·rw [f3 q hq hf,i3 q hq]
     by_cases hj:q / 2=j
     ·rw [if_pos hj,if_pos ⟨by omega,hj⟩]
     ·rw [if_neg hj,if_neg (fun h=>hj h.2),if_neg (fun h=>hj h.2)]
    ·have e1:hAt w.t (fgL w j S k) q=hAt w.t S q:=by
      simp only [hAt,bsA]
      rw [f2 _ (fun h'=>hf (by have:=(frP_node h.t hq.1).1; omega))]
     rw [e1,i3 q hq]
     have:(frP w.t q < ((k+1:Nat):Int)∧q / 2=j)↔(frP w.t q < (k:Nat)∧q / 2=j):=by constructor <;> rintro ⟨h1,h2⟩ <;> exact ⟨by omega,h2⟩
     simp only [this]
 obtain ⟨k1,k2,k3⟩:=key _ (Nat.le_refl _)
 refine ⟨k1,k2,fun q hq=>?_⟩
 have h1:=k3 q hq
 have h2:=frP_node h.t hq.1
 have h3:frP w.t q < (w.bs.length:Nat):=by rw [h.bl]; exact h2.2
 simp only [h3,true_and] at h1
 exact h1
theorem VN.cut {w:Nw} (h:VN w) (j:Nat):VN ⟨w.t,w.prios,w.down.set j true,cutL w j⟩:=by
 obtain ⟨c1,c2,c3⟩:=cut_at h j
 refine ⟨h.t,h.rank,by show ((cutL w j).length:Int)=_; rw [c1.1]; exact h.bl,by simpa using h.dl,vBs_mv (w:=w) rfl rfl c1.1 c1,fun q hq hd=>?_,fun n x hx hs=>?_⟩
 ·have h1:=c3 q hq
  show (hAt w.t (cutL w j) q).is=false
  rw [h1]
  split
  ·rfl
  ·rename_i hj
   refine h.qt q hq ?_
   simp only [dnA] at hd ⊢
   rw [List.getElem?_set_ne (fun h=>hj h.symm)] at hd
   exact hd
 ·have hx':(cutL w j)[n]? = some x:=hx
  rw [c2 n hs] at hx'
  exact cpX_st (P:=fun x=>emptyB x.b=true∧(x.z=true→x.b=zBr)) cpX_P hx' (fun y hy=>h.st n y hy hs)
theorem newL_get (w:Nw):(newL w).length=w.bs.length∧∀ n,(newL w)[n]? = if n < w.bs.length∧stA w.t n=false then some (newN w n) else w.bs[n]?:=by
 have key:∀ k,k≤w.bs.length→((List.range k).foldl (stS w.t (fun s n=>s.set n (newN w n))) w.bs).length=w.bs.length∧∀ n,((List.range k).foldl (stS w.t (fun s n=>s.set n (newN w n))) w.bs)[n]? = if n < k∧stA w.t n=false then some (newN w n) else w.bs[n]?:=by
  intro k
  induction k with
  | zero=>intro _; exact ⟨rfl,fun n=>by rw [if_neg (fun h=>by omega)]; rfl⟩
  | succ k ih =>
   intro hk
   obtain ⟨i1,i2⟩:=ih (by omega)
   rw [List.range_succ,List.foldl_append,List.foldl_cons,List.foldl_nil]
   generalize (List.range k).foldl (stS w.t (fun s n=>s.set n (newN w n))) w.bs=S at *
   unfold stS
   have hiff:∀ n,n≠k→((n < k+1∧stA w.t n=false)↔(n < k∧stA w.t n=false)):=by intro n hn; constructor <;> rintro ⟨h1,h2⟩ <;> exact ⟨by omega,h2⟩
   by_cases hs:stA w.t k=true
   ·rw [if_pos hs]
    refine ⟨i1,fun n=>?_⟩
    rw [i2 n]
    by_cases hn:n=k
    ·subst hn; rw [if_neg (fun h=>by omega),if_neg (fun h=>by rw [hs] at h; cases h.2)]
    ·simp only [hiff n hn]
   ·rw [if_neg hs]
    refine ⟨by simp [i1],fun n=>?_⟩
    by_cases hn:n=k
    ·subst hn; rw [if_pos ⟨by omega,by simpa using hs⟩,List.getElem?_set_self (by omega)]
    ·rw [List.getElem?_set_ne (fun h=>hn h.symm),i2 n]
     simp only [hiff n hn]
 exact key _ (Nat.le_refl _)
theorem VN.new {t:Tpo} {prios:List Int} (h:okT t=true) (h2:rankL t prios=true):VN ⟨t,prios,List.replicate t.links.length false,newL (newW t prios)⟩:=by
 obtain ⟨z1,z2,z3⟩:=okT_size h
 obtain ⟨n1,n2⟩:=newL_get (newW t prios)
 have hl:(newW t prios).bs.length=t.nodes.toNat:=by simp [newW]
 rw [hl] at n1 n2
 have hd:∀ i,(dnA ⟨t,prios,List.replicate t.links.length false,newL (newW t prios)⟩ i)=false:=by
  intro i
  simp only [dnA]
  rw [List.getElem?_replicate]
  split <;> rfl
 refine ⟨h,h2,by show ((newL (newW t prios)).length:Int)=_; rw [n1]; show ((t.nodes.toNat:Nat):Int)=t.nodes; omega,by simp,⟨rfl,fun n x hx hs=>?_⟩,fun q hq hq2=>(by rw [hd] at hq2; cases hq2),fun n x hx hs=>?_⟩
 ·have hx':(newL (newW t prios))[n]? = some x:=hx
  have hlt:n < t.nodes.toNat:=by rw [← n1]; exact (List.getElem?_eq_some_iff.1 hx').1
  have hs':stA (newW t prios).t n=false:=hs
  rw [n2 n,if_pos ⟨hlt,hs'⟩] at hx'
  obtain rfl:=Option.some.inj hx'
  have hv:=newN_ok (w:=newW t prios) h h2 (n:=n) (by show (n:Int) < t.nodes; omega)
  exact ⟨rfl,hv.ok,hv.ip,hv.id,hv.ports,hv.costs⟩
 ·have hx':(newL (newW t prios))[n]? = some x:=hx
  have hs':stA (newW t prios).t n=true:=hs
  rw [n2 n,if_neg (fun h=>by rw [hs'] at h; cases h.2)] at hx'
  have hxz:x=zBx:=by
   have h3:x∈(newW t prios).bs:=List.mem_of_getElem? hx'
   simp only [newW] at h3
   exact List.eq_of_mem_replicate h3
  rw [hxz]
  exact ⟨rfl,fun _=>rfl⟩
end Go.Proofs.YtbibdnlbpjnieaaGreat
namespace Go.Proofs.YtbibdnlbpjnieaaGreat
structure Ed where
 a:Nat
 b:Nat
 w:Int
 deriving DecidableEq
def iter {σ:Type} (f:σ→σ):Nat→σ→σ
 | 0,s=>s
 | n+1,s=>f (iter f n s)
inductive Cn (E:List Ed):Nat→Nat→Prop
 | refl (i:Nat):Cn E i i
 | step {e:Ed} {k:Nat}:e∈E→Cn E e.b k→Cn E e.a k
theorem Cn.trans {E:List Ed} {i j k:Nat} (h1:Cn E i j) (h2:Cn E j k):Cn E i k:=by
 induction h1 with
 | refl=>exact h2
 | step he _ ih=>exact .step he (ih h2)
def symE (E:List Ed):Prop:=∀ e∈E,(⟨e.b,e.a,e.w⟩:Ed)∈E
theorem Cn.symm {E:List Ed} (hs:symE E) {i j:Nat} (h:Cn E i j):Cn E j i:=by
 induction h with
 | refl=>exact .refl _
 | step he _ ih=>exact ih.trans (.step (e:=⟨_,_,_⟩) (hs _ he) (.refl _))
theorem Cn.const {E:List Ed} {α:Type} {f:Nat→α} (hf:∀ e∈E,f e.a=f e.b) {i j:Nat} (h:Cn E i j):f i=f j:=by
 induction h with
 | refl=>rfl
 | step he _ ih=>rw [hf _ he,ih]
theorem Cn.lt {E:List Ed} {N:Nat} (hE:∀ e∈E,e.a < N∧e.b < N) {i j:Nat} (h:Cn E i j) (hi:i < N):j < N:=by
 induction h with
 | refl=>exact hi
 | step he _ ih=>exact ih (hE _ he).2
section
variable {N:Nat} {E:List Ed} (hE:∀ e∈E,e.a < N∧e.b < N∧e.a≠e.b∧1≤e.w) {d0:Nat→Int} (h0:∀ i,0≤d0 i)
include hE h0
end
structure Dst (κ:Nat→Int) (E:List Ed) (N:Nat) (F:Nat→Nat) (D:Nat→Int):Prop where
 edge:∀ e∈E,D e.a≤D e.b+e.w
 top:∀ i,i < N→F i=i→D i=0
 nn:∀ i,i < N→0≤D i
 par:∀ i,i < N→F i≠i→∃ e∈E,e.a=i∧D i=D e.b+e.w
theorem Dst.le {κ:Nat→Int} {E:List Ed} {N:Nat} {F:Nat→Nat} {D D':Nat→Int} (hE:∀ e∈E,e.a < N∧e.b < N∧e.a≠e.b∧1≤e.w) (h:Dst κ E N F D) (h':Dst κ E N F D'):∀ (n i:Nat),i < N→D' i≤n→D i≤D' i:=by
 intro n
 induction n with
 | zero =>
  intro i hi hn
  by_cases hF:F i=i
  ·rw [h.top i hi hF,h'.top i hi hF]; exact Int.le_refl _
  ·obtain ⟨e,he,h1,h2⟩:=h'.par i hi hF
   have:=h'.nn e.b (hE e he).2.1
   have:=(hE e he).2.2.2
   omega
 | succ n ih =>
  intro i hi hn
  by_cases hF:F i=i
  ·rw [h.top i hi hF,h'.top i hi hF]; exact Int.le_refl _
  ·obtain ⟨e,he,h1,h2⟩:=h'.par i hi hF
   have h3:=(hE e he).2.2.2
   have h4:=ih e.b (hE e he).2.1 (by omega)
   have h5:=h.edge e he
   rw [h1] at h5
   omega
theorem Dst.eq {κ:Nat→Int} {E:List Ed} {N:Nat} {F:Nat→Nat} {D D':Nat→Int} (hE:∀ e∈E,e.a < N∧e.b < N∧e.a≠e.b∧1≤e.w) (h:Dst κ E N F D) (h':Dst κ E N F D') (i:Nat) (hi:i < N):D i=D' i:=by
 have h1:=h.le hE h' (D' i).toNat i hi (by omega)
 have h2:=h'.le hE h (D i).toNat i hi (by omega)
 omega
end Go.Proofs.YtbibdnlbpjnieaaGreat
