/- Part 26 of the proof of TreeNews. -/
import Derived.Test.YtbibdnlbpjnieaaGreatN25
set_option linter.all false
set_option maxRecDepth 100000
set_option maxHeartbeats 4000000
namespace Go.Proofs.YtbibdnlbpjnieaaGreat
open Go Go.Abs
def bestAt (w:Nw) (R:List (Int × Int)) (D:List Int) (n:Nat):Int:=if stA w.t n=true then 0 else bestN w R D n
def bestL (w:Nw) (R:List (Int × Int)) (D:List Int):List Int:=(List.range w.bs.length).map (bestAt w R D)
theorem rtRoundL_len (w:Nw) (R:List (Int × Int)):(rtRoundL w R).length=R.length:=by
 unfold rtRoundL
 generalize w.t.links.length=k
 induction k with
 | zero=>rfl
 | succ k ih =>
  rw [List.range_succ,List.foldl_append,List.foldl_cons,List.foldl_nil]
  generalize (List.range k).foldl (upS w (rtS1 w)) R=S at *
  unfold upS
  split
  ·simp [rtS1,ih]
  ·exact ih
theorem rootsL_len (w:Nw):(rootsL w).length=w.t.nodes.toNat:=by
 unfold rootsL
 generalize hN:w.t.nodes.toNat=N
 have:∀ k,((List.range k).foldl (fun R _=>rtRoundL w R) (rt0 w)).length=N:=by
  intro k
  induction k with
  | zero=>simp [rt0,hN]
  | succ k ih=>rw [List.range_succ,List.foldl_append,List.foldl_cons,List.foldl_nil,rtRoundL_len,ih]
 exact this N
theorem distL_ok {w:Nw} (hok:okT w.t=true) (R:List (Int × Int)):(distL w R).length=w.t.nodes.toNat∧∀ x∈distL w R,0≤x∧x≤12000:=by
 have h0:dsI w (ds0 w R,0):=by
  refine ⟨⟨by simp [ds0],Nat.zero_le _⟩,fun x hx=>?_⟩
  simp only [ds0,List.mem_map] at hx
  obtain ⟨m,_,rfl⟩:=hx
  split <;> omega
 have:∀ k,dsI w ((List.range k).foldl (fun s _=>dsRound w s) (ds0 w R,0)):=by
  intro k
  induction k with
  | zero=>exact h0
  | succ k ih=>rw [List.range_succ,List.foldl_append,List.foldl_cons,List.foldl_nil]; exact dsRound_ok hok ih
 have h:=this w.t.nodes.toNat
 have e:((List.range w.t.nodes.toNat).foldl (fun s _=>dsRound w s) (ds0 w R,0)).1=distL w R:=fold_fst (fun s _=>dsRound w s) (fun D _=>dsRoundL w D) (fun s _=>dsRound_fst w s) _ _
 obtain ⟨⟨h1,h2⟩,h3⟩:=h
 rw [e] at h1 h3
 exact ⟨h1,h3⟩
theorem snap_box {h:Heap} {o d:Nat} {x:AV} {t:T} (ho:h[o]? = some (.row 1 [x] 1)) (hx:x.cells=[x]) (hs:snap h allObj d x=some t):snap h allObj (d+1) (.ref o 1 0 0)=some (.ip [t]):=by
 rw [sn_ref,row_at ho (Nat.le_refl _) (by omega) (by simp)]
 simp [snR_some,hx,mapO,hs,snR.snO]
theorem snap_fn {h:Heap} {d:Nat} {g:Fn} {b:List AV} {ts:List T} (hs:mapO (snap h allObj d) b=some ts):snap h allObj (d+1) (.fn g [] b)=some (.fn g [] ts):=by
 simp only [snap,mapO,hs]
theorem goal_ans (f:Fl) (w:Nw) (hok:okT w.t=true) (hbl:(w.bs.length:Int)=w.t.nodes) (hpl:(w.prios.length:Int)=w.t.nodes) (hdl:w.down.length=w.t.links.length):ans Tryz.prog pol 45 [nwT f w] =
  some (.fn (.func 92) [] [.ip [.sl true 1 ((distL w (rootsL w)).map I)],.ip (nwC f w),.ip [.sl true 1 ((bestL w (rootsL w) (distL w (rootsL w))).map I)],.ip [.fn (.func 90) [] (gcap1 f w true (distL w (rootsL w)))]]):=by
 obtain ⟨z1,z2,z3⟩:=okT_size hok
 have kr:=roots_ans f w hok hpl hdl
 have hRl:=rootsL_len w
 have kd:=distances_ans f true w (rootsL w) hok hpl hdl hRl
 obtain ⟨hDl,hDb⟩:=distL_ok hok (rootsL w)
 generalize hR:rootsL w=R at *
 generalize hD:distL w R=D at *
 have hNb:w.t.nodes.toNat=w.bs.length:=by omega
 have hNn:w.t.nodes=(w.bs.length:Nat):=by omega
 have hroom:8*w.bs.length≤roomB:=by rw [Nat.mul_comm]; exact ap_room (by omega) (by omega)
 have hbig:w.bs.length≤9223372036854775807:=by omega
 have hb100:w.bs.length≤100:=by omega
 obtain ⟨nn,h2000⟩:∃ nn,2000 < nn:=⟨2001,by omega⟩
 have hn2:200 < nn:=by omega
 have asn:asNat (.t (I w.t.nodes))=some w.bs.length:=by rw [hNn]; rfl
 refine ans_go nn 6 il45_eq (Nat.le_of_ble_eq_true rfl) ?_
 simp only [il45c]
 generalize hrf:rfOf Tryz.prog 45 0=rf
 have hrep:List.replicate w.bs.length (AV.t (T.sc (Value.int IntKind.i64 0)))=((List.replicate w.bs.length (0:Int)).map I).map .t:=by simp
 (repeat' first|simp only [List.cons_append,List.nil_append,go_sem,hroom,hbig,asn,kr,kd,hrep,frz_mapA]|(with_reducible first|apply wD|apply wT|(apply wM; intro)|(apply wL; intro))|((with_reducible first|refine wA ?_ ?_|refine wE ?_); rfl)|((with_reducible refine oB_inl il31_eq ?_ ?_); exact Nat.le_of_ble_eq_true rfl; simp only [il31c]))
 have key:∀ E:FEnv,([.row 1 [.t (.sl true 2 (R.map encP))] 1,.gone,.row 1 (((List.replicate w.bs.length (0:Int)).map I).map .t) 0,.row 1 [.ms 2 w.bs.length 0 w.bs.length 1 true] 1,.row 1 [.t (.fn (.func 90) [] (gcap1 f w true D))] 1,.loop 45 (lpEnv 94 (tidyF (some [1,3,5,6]) E)) [25,26] rf.1 rf.2 false none]:Heap)=hpGl f w R D rf E false (List.replicate w.bs.length 0,0):=fun E=>by rw [← hNb]; rfl
 simp only [gcap1] at key
 rw [key]
 have h56:5 < 6:=by omega
 have hI0:(List.replicate w.bs.length (0:Int),0).1=fillL (bestAt w R D) 0 w.bs.length 0∧(List.replicate w.bs.length (0:Int),0).2≤w.bs.length:=⟨(fillL_zero _ _ _).symm,Nat.zero_le _⟩
 have hstep:∀ (n:Nat) (s:List Int × Nat),n < w.bs.length→(s.1=fillL (bestAt w R D) 0 w.bs.length n∧s.2≤w.bs.length)→((stS w.t (fun (s:List Int × Nat) n=>(s.1.set n (bestN w R D n),w.bs.length)) s n).1=fillL (bestAt w R D) 0 w.bs.length (n+1)∧(stS w.t (fun (s:List Int × Nat) n=>(s.1.set n (bestN w R D n),w.bs.length)) s n).2≤w.bs.length):=by
  intro n s hnb hI
  unfold stS
  by_cases hs:stA w.t n=true
  ·rw [if_pos hs,fillL_same hnb (by rw [bestAt,if_pos hs])]
   exact hI
  ·rw [if_neg hs]
   refine ⟨?_,Nat.le_refl _⟩
   show s.1.set n _=_
   rw [hI.1]
   exact fillL_set hnb (by rw [bestAt,if_neg hs])
 with_reducible refine @all_iterT (List Int × Nat) (fun s=>hpGl f w R D rf _ false s) 6 (fun s=>rfl) (fun s n=>(s.1.set n (bestN w R D n),w.bs.length)) 5 nn 5 (fun n s=>s.1=fillL (bestAt w R D) 0 w.bs.length n∧s.2≤w.bs.length) w hstep ?_ h56 f z2 hbl hb100 ?_ (List.replicate w.bs.length 0,0) hI0 _ hn2 ?_
 ·intro s h q hq
  exact hpGl_frz f w R D rf _ (by simp only [go_sem,glE]) false s h q hq
 ·intro s n x Q hx hs hI hQ
  have hnl:n < w.bs.length:=(List.getElem?_eq_some_iff.1 hx).1
  have hI:s.1=fillL (bestAt w R D) 0 w.bs.length n∧s.2≤w.bs.length:=hI
  have hQ':∀ X',Q (.t (B true)) (hpGl f w R D rf _ false (s.1.set n (bestN w R D n),w.bs.length)++[.row 5 [.t (.agg (bxC x))] 1]++X'):=hQ
  have hl:s.1.length=w.bs.length:=by rw [hI.1]; exact fillL_len _ _ (Nat.le_of_lt hnl)
  have hy:=fun E hE=>@goal_yield f w R D hok hbl hpl hdl hDl hDb hRl rf hrf E hE s ⟨by omega,by omega⟩ n (bxC x) hnl 4 nn hn2 Q
  rw [hNb] at hy
  with_reducible exact hy _ (by simp only [go_sem,glE]) hQ'
 ·intro v
  have hfin:∀ k,k≤w.bs.length→((List.range k).foldl (stS w.t (fun (s:List Int × Nat) n=>(s.1.set n (bestN w R D n),w.bs.length))) (List.replicate w.bs.length 0,0)).1=fillL (bestAt w R D) 0 w.bs.length k∧((List.range k).foldl (stS w.t (fun (s:List Int × Nat) n=>(s.1.set n (bestN w R D n),w.bs.length))) (List.replicate w.bs.length 0,0)).2≤w.bs.length:=by
   intro k
   induction k with
   | zero=>intro _; exact hI0
   | succ k ih =>
    intro hk
    rw [List.range_succ,List.foldl_append,List.foldl_cons,List.foldl_nil]
    exact hstep k _ (by omega) (ih (by omega))
  obtain ⟨hf1,hf2⟩:=hfin w.bs.length (Nat.le_refl _)
  generalize (List.range w.bs.length).foldl _ _=s at *
  rw [fillL_all] at hf1
  change rfEnd _ _ _ v (hpGl f w R D rf _ false s)
  have hbL:bestL w R D=s.1:=by rw [hf1]; rfl
  rw [hbL]
  have hl4:s.1.length=w.bs.length:=by rw [hf1]; simp
  have hl5:((s.1.map I).map AV.t).length=w.bs.length:=by simp [hl4]
  simp only [hpGl,lpGl,hNb,gcap1,List.cons_append,List.nil_append]
  (repeat' first|simp only [il45c,go_sem,frz_mapA,hf2,hl5]|(with_reducible first|apply wD|apply wT|(apply wM; intro)|(apply wL; intro))|((with_reducible first|refine wA ?_ ?_|refine wE ?_); rfl))
  generalize hH:([AObj.row 1 [AV.t (T.sl true 2 (List.map encP R))] 1,AObj.gone,AObj.row 1 (List.map AV.t (List.map I s.fst)) s.snd,AObj.row 1 [AV.ms 2 w.bs.length 0 w.bs.length 1 true] 1,AObj.row 1 [AV.t (T.fn (Fn.func 90) [] [T.ip (nwC f w),T.ip [T.sl true 1 (List.map I D)]])] 1]:Heap)=H
  have e0:snap H allObj 18 (.ms 2 w.bs.length 0 w.bs.length 1 true)=some (.sl true 1 (s.1.map I)):=snap_msr (d:=16) rfl (by rw [← hH]; rfl) hf2 hl4.symm
  have e1:snap H allObj 19 (.ref 3 1 0 0)=some (.ip [.sl true 1 (s.1.map I)]):=snap_box (by rw [← hH]; rfl) rfl e0
  have e2:snap H allObj 19 (.ref 4 1 0 0)=some (.ip [T.fn (Fn.func 90) [] [T.ip (nwC f w),T.ip [T.sl true 1 (List.map I D)]]]):=snap_box (by rw [← hH]; rfl) rfl (sn_t)
  exact snap_fn (by simp only [mapO,sn_t,e1,e2])
end Go.Proofs.YtbibdnlbpjnieaaGreat
namespace Go.Proofs.YtbibdnlbpjnieaaGreat
open Go Go.Abs
def goalW (w:Nw) (n p:Nat):Int:=goalG w (distL w (rootsL w)) (bestL w (rootsL w) (distL w (rootsL w))) n p
theorem GoalT_ok (f:Fl) (w:Nw) (hz:zOk w) (hok:okN w=true):ans Tryz.prog pol 17 [nwT f w]=some (.tup [.sl true 1 ((asL w (goalW w)).map I),I 0]):=by
 have hO:=okN_ok hok hz
 obtain ⟨z1,z2,z3⟩:=okT_size hO.t
 have hpl:=rankL_len hO.rank
 have hbl:=hO.bl
 have k1:=CheckN_ans f w hz (by omega) (by omega)
 rw [if_pos hok] at k1
 have kg:=goal_ans f w hO.t hbl hpl hO.dl
 obtain ⟨hDl,hDb⟩:=distL_ok hO.t (rootsL w)
 have hbL:(bestL w (rootsL w) (distL w (rootsL w))).length=w.t.nodes.toNat:=by simp [bestL]; omega
 have k2:=assign_ans f w 92 _ (goalW w) hO.t hbl hO.dl rfl rfl (fun n p hn hs hp _=>goal2_ans f w true (distL w (rootsL w)) hO.t hpl hDl hDb true (bestL w (rootsL w) (distL w (rootsL w))) hbL n p (by omega) (trunk_lt hp))
 refine ans_go 2000 5 il17_eq (Nat.le_of_ble_eq_true rfl) ?_
 simp only [il17c]
 (repeat' first|simp only [List.cons_append,List.nil_append,go_sem,k1,kg,k2]|(with_reducible first|apply wD|apply wT|(apply wM; intro)|(apply wL; intro))|((with_reducible first|refine wA ?_ ?_|refine wE ?_); rfl))
end Go.Proofs.YtbibdnlbpjnieaaGreat
namespace Go.Proofs.YtbibdnlbpjnieaaGreat
open Go Go.Abs
section
variable {w:Nw} (h:VN w)
include h
end
end Go.Proofs.YtbibdnlbpjnieaaGreat
namespace Go.Proofs.YtbibdnlbpjnieaaGreat
open Go Go.Abs
section
variable {w:Nw} (h:VN w)
include h
end
end Go.Proofs.YtbibdnlbpjnieaaGreat
namespace Go.Proofs.YtbibdnlbpjnieaaGreat
open Go Go.Abs
def msgH (h:Hd):Msg:=⟨16*h.a+h.b,h.c,16*h.d+h.e,h.f,h.g⟩
def hM (h:Hd):Option Msg:=if h.is=true then some (msgH h) else none
section
variable {w:Nw} (h:VN w)
include h
end
def runW (w:Nw):Nat→Nw
 | 0=>w
 | T+1=>rndW (runW w T)
theorem VN.run {w:Nw} (h:VN w) (T:Nat):VN (runW w T):=by
 induction T with
 | zero=>exact h
 | succ T ih=>exact ih.rnd
end Go.Proofs.YtbibdnlbpjnieaaGreat
namespace Go.Proofs.YtbibdnlbpjnieaaGreat
open Go Go.Abs
abbrev fl1:Fl:=⟨false,false,false,false,true⟩
theorem RoundV (f:Fl) (w:Nw) (h:VN w):ans Tryz.prog pol 22 [nwT f w]=some (.tup [nwT fl1 (rndW w),I 0]):=Round_ok f w h.z h.ok h.b6
def t3:Tpo:=⟨5,[false,false,false,true,true],[⟨0,1,1,0⟩,⟨1,2,1,0⟩,⟨0,2,5,0⟩,⟨3,0,1,0⟩,⟨4,2,1,0⟩]⟩
theorem three_ans:ans Tryz.prog pol 27 []=some (tpT true true t3):=ans_of_run (n:=10) 3 (by kernel_rfl)
def pr0:List Int:=[0,0,0,0,0]
def n0:Nw:=⟨t3,pr0,List.replicate t3.links.length false,newL (newW t3 pr0)⟩
def n3:Nw:=⟨(rndW (rndW n0)).t,(rndW (rndW n0)).prios,(rndW (rndW n0)).down.set 1 true,cutL (rndW (rndW n0)) 1⟩
theorem t3_ok:okT t3=true:=by decide +kernel
theorem n0_ok:VN n0:=VN.new t3_ok (by decide +kernel)
theorem n3_ok:VN n3:=n0_ok.rnd.rnd.cut 1
theorem g0_eq:asL n0 (goalW n0)=[2,1,2,1,2,3,0,2,0,2]:=by decide +kernel
theorem r0_eq:asL n0 (roleW n0)=[2,2,2,2,2,2,0,2,0,2]:=by decide +kernel
theorem r2_eq:asL (rndW (rndW n0)) (roleW (rndW (rndW n0)))=[2,1,2,1,2,3,0,2,0,2]:=by decide +kernel
theorem g3_eq:asL n3 (goalW n3)=[2,1,0,0,2,1,0,2,0,2]:=by decide +kernel
theorem wakes_ans:ans Tryz.prog pol 6 []=some (B true):=by
 have k0:=three_ans
 have k1:ans Tryz.prog pol 8 [tpT true true t3,.sl true 1 [I 0,I 0,I 0,I 0,I 0]]=some (.tup [nwT fl1 n0,I 0]):=New_ok true true true t3 pr0 t3_ok (by decide +kernel)
 have k2:=GoalT_ok fl1 n0 n0_ok.z n0_ok.ok
 have k3:=RolesT_ok fl1 n0 n0_ok.z n0_ok.ok
 have k4:=RoundV fl1 n0 n0_ok
 have k5:=RoundV fl1 (rndW n0) n0_ok.rnd
 have k6:=RolesT_ok fl1 (rndW (rndW n0)) n0_ok.rnd.rnd.z n0_ok.rnd.rnd.ok
 have k7:ans Tryz.prog pol 23 [nwT fl1 (rndW (rndW n0)),I 1]=some (.tup [nwT fl1 n3,I 0]):=Cut_ok fl1 (rndW (rndW n0)) n0_ok.rnd.rnd.z n0_ok.rnd.rnd.ok 1 (by decide +kernel) n0_ok.rnd.rnd.b6
 have k8:=GoalT_ok fl1 n3 n3_ok.z n3_ok.ok
 have k9:=Cut_arg fl1 n0 5 n0_ok.z n0_ok.ok (.inr (by decide +kernel))
 rw [g0_eq] at k2
 rw [r0_eq] at k3
 rw [r2_eq] at k6
 rw [g3_eq] at k8
 have e1:=equalI_ans true true [2,1,2,1,2,3,0,2,0,2] [2,1,2,1,2,3,0,2,0,2] (by decide)
 have e2:=equalI_ans true true [2,2,2,2,2,2,0,2,0,2] [2,2,2,2,2,2,0,2,0,2] (by decide)
 have e3:=equalI_ans true true [2,1,0,0,2,1,0,2,0,2] [2,1,0,0,2,1,0,2,0,2] (by decide)
 have d1:decide ([(2:Int),1,2,1,2,3,0,2,0,2]=[2,1,2,1,2,3,0,2,0,2])=true:=by decide
 have d2:decide ([(2:Int),2,2,2,2,2,0,2,0,2]=[2,2,2,2,2,2,0,2,0,2])=true:=by decide
 have d3:decide ([(2:Int),1,0,0,2,1,0,2,0,2]=[2,1,0,0,2,1,0,2,0,2])=true:=by decide
 rw [d1] at e1
 rw [d2] at e2
 rw [d3] at e3
 simp only [List.map_cons,List.map_nil] at k2 k3 k6 k8 e1 e2 e3
 generalize n3=w3 at *
 generalize rndW (rndW n0)=w2 at *
 generalize rndW n0=w1 at *
 generalize n0=w0 at *
 generalize t3=T3 at *
 refine ans_go 100 1 il6_eq (Nat.le_of_ble_eq_true rfl) ?_
 (repeat' first|simp only [il6c,go_sem,k0,k1,k2,k3,k4,k5,k6,k7,k8,k9,e1,e2,e3]|(with_reducible first|apply wD|apply wT|(apply wM; intro)|(apply wL; intro))|((with_reducible first|refine wA ?_ ?_|refine wE ?_); rfl))
end Go.Proofs.YtbibdnlbpjnieaaGreat
namespace Go.Proofs.YtbibdnlbpjnieaaGreat
open Go Go.Abs
def fewT (t:Tpo):Tpo:=⟨t.nodes,t.station.take 20,t.links.take 30⟩
theorem few_ans (c1 c2:Bool) (t:Tpo):∃ d1 d2,ans Tryz.prog pol 7 [tpT c1 c2 t]=some (tpT d1 d2 (fewT t)):=by
 obtain ⟨nodes,st,lk⟩:=t
 simp only [fewT,tpT,tpC]
 have m20:(if 20 < ((st.length:Nat):Int) then (20:Int) else ((st.length:Nat):Int))=((min 20 st.length:Nat):Int):=by split <;> omega
 have m30:(if 30 < ((lk.length:Nat):Int) then (30:Int) else ((lk.length:Nat):Int))=((min 30 lk.length:Nat):Int):=by split <;> omega
 have t20:List.take (min 20 st.length) (st.map B)=(st.take 20).map B:=by rw [List.map_take,List.take_eq_take_min (i:=20) (l:=st.map B),List.length_map]
 have t30:List.take (min 30 lk.length) (lk.map encK)=(lk.take 30).map encK:=by rw [List.map_take,List.take_eq_take_min (i:=30) (l:=lk.map encK),List.length_map]
 have q20:min 20 st.length≤st.length:=Nat.min_le_right _ _
 have q30:min 30 lk.length≤lk.length:=Nat.min_le_right _ _
 generalize hA:(st.take 20).map B=A at *
 generalize hL:(lk.take 30).map encK=L at *
 generalize hb1:decide (min 20 st.length=st.length)=b1 at *
 generalize hb2:decide (min 30 lk.length=lk.length)=b2 at *
 refine ⟨c1 && b1,c2 && b2,?_⟩
 refine ans_go 1 1 il7_eq (Nat.le_of_ble_eq_true rfl) ?_
 (repeat' first|simp only [il7c,go_sem,m20,m30,t20,t30,q20,q30,hb1,hb2]|(with_reducible first|apply wD|apply wT|(apply wM; intro)|(apply wL; intro))|((with_reducible first|refine wA ?_ ?_|refine wE ?_); rfl))
theorem failed_ans (e:Int):ans Tryz.prog pol 10 [zN6,I e,I e]=some (B true):=by
 have k1:=nSame_ans (n:=0) (st:=[]) (lk:=[]) (pr:=[]) (dn:=[]) (xs:=[]) (ys:=[]) (slR_nil (k:=1)) (slR_nil (k:=4)) (slR_nil (k:=1)) (slR_nil (k:=1)) (slR_nil (k:=5)) (slR_nil (k:=1)) (slR_nil (k:=4)) (slR_nil (k:=1)) (slR_nil (k:=1)) (slR_nil (k:=5)) (by simp) (by simp) (by simp) (by simp) ⟨by simp,fun x h=>(by cases h)⟩ ⟨rfl,fun i x y h=>by simp at h⟩
 have d:decide (e=e)=true:=decide_eq_true rfl
 refine ans_go 1 1 il10_eq (Nat.le_of_ble_eq_true rfl) ?_
 (repeat' first|simp only [il10c,go_sem,k1,d]|(with_reducible first|apply wD|apply wT|(apply wM; intro)|(apply wL; intro))|((with_reducible first|refine wA ?_ ?_|refine wE ?_); rfl))
theorem like_ans (f f':Fl) (w w':Nw) (ht:w.t=w'.t) (hp:w.prios=w'.prios) (hd:w.down=w'.down) (l1:w.t.station.length≤1000) (l2:w.t.links.length≤1000) (l3:w.prios.length≤1000) (l4:w.down.length≤1000) (l5:smallB w.bs) (hb:sameB w.bs w'.bs) :
  ans Tryz.prog pol 12 [nwT f w,I 0,nwT f' w']=some (B true):=by
 obtain ⟨t,p,d,bs⟩:=w
 obtain ⟨t',p',d',bs'⟩:=w'
 dsimp only at ht hp hd l1 l2 l3 l4 l5 hb
 subst ht hp hd
 have k1:=nSame_ans (n:=t.nodes) (S1:=.sl f.st 1 (t.station.map B)) (S2:=.sl f.lk 4 (t.links.map encK)) (S3:=.sl f.pr 1 (p.map I)) (S4:=.sl f.dn 1 (d.map B)) (S5:=.sl f.bs 5 (bs.map encX)) (S1':=.sl f'.st 1 (t.station.map B)) (S2':=.sl f'.lk 4 (t.links.map encK)) (S3':=.sl f'.pr 1 (p.map I)) (S4':=.sl f'.dn 1 (d.map B)) (S5':=.sl f'.bs 5 (bs'.map encX))
  slR_sl slR_sl slR_sl slR_sl slR_sl slR_sl slR_sl slR_sl slR_sl slR_sl l1 l2 l3 l4 l5 hb
 refine ans_go 1 1 il12_eq (Nat.le_of_ble_eq_true rfl) ?_
 (repeat' first|simp only [il12c,go_sem,k1]|(with_reducible first|apply wD|apply wT|(apply wM; intro)|(apply wL; intro))|((with_reducible first|refine wA ?_ ?_|refine wE ?_); rfl))
theorem new_same {t:Tpo} {prios:List Int} (h:okT t=true) (h2:rankL t prios=true):smallB (newL (newW t prios))∧sameB (newL (newW t prios)) ((List.range t.nodes.toNat).map (rnewX t prios)):=by
 obtain ⟨z1,z2,z3⟩:=okT_size h
 obtain ⟨n1,n2⟩:=newL_get (newW t prios)
 have hl:(newW t prios).bs.length=t.nodes.toNat:=by simp [newW]
 rw [hl] at n1 n2
 have hz:∀ (n:Nat) (x:Bx),(newW t prios).bs[n]? = some x→x=zBx:=fun n x hx=>by
  simp only [newW] at hx
  rw [List.getElem?_replicate] at hx
  split at hx
  ·exact (Option.some.inj hx).symm
  ·cases hx
 have small:∀ (n:Nat) (x:Bx),(newL (newW t prios))[n]? = some x→(ctX x).ports.length≤1000∧(ctX x).costs.length≤1000∧(ctX x).heard.length≤1000:=by
  intro n x hx
  rw [n2] at hx
  split at hx
  ·rename_i hc
   cases hx
   have:=trunk_24 h ((n:Nat):Int)
   refine ⟨?_,?_,?_⟩ <;> simp [ctX,newN,newB,costL,newW] <;> omega
  ·rw [hz n x hx]; simp [ctX,zBx,zBr]
 refine ⟨⟨by omega,fun x hx=>?_⟩,⟨by rw [n1]; simp,fun n x y hx hy=>?_⟩⟩
 ·obtain ⟨n,hn,rfl⟩:=List.getElem_of_mem hx
  exact small n _ (List.getElem?_eq_getElem hn)
 ·rw [List.getElem?_map,Option.map_eq_some_iff] at hy
  obtain ⟨m,hm,rfl⟩:=hy
  have hm':n=m∧n < t.nodes.toNat:=by
   have hn:n < (List.range t.nodes.toNat).length:=(List.getElem?_eq_some_iff.1 hm).1
   rw [List.getElem?_eq_getElem hn,List.getElem_range] at hm
   exact ⟨Option.some.inj hm,by simpa using hn⟩
  obtain ⟨rfl,hnN⟩:=hm'
  rw [n2] at hx
  unfold rnewX
  by_cases hs:stA t n=true
  ·rw [if_neg (fun hc=>by have:stA t n=false:=hc.2; rw [hs] at this; cases this)] at hx
   rw [if_pos hs,hz n x hx]
  ·have hs':stA t n=false:=by simpa using hs
   rw [if_pos ⟨hnN,hs'⟩] at hx
   cases hx
   rw [if_neg hs]
   rfl
theorem news_ans (c1 c2 c:Bool) (t:Tpo) (prios:List Int):ans Tryz.prog pol 3 [tpT c1 c2 t,.sl c 1 (prios.map I)]=some (B true):=by
 have k0:=wakes_ans
 obtain ⟨d1,d2,k1⟩:=few_ans c1 c2 t
 generalize hX:fewT t=X at *
 have hP20:(prios.take 20).length≤20:=by simp; omega
 have m20:(if 20 < ((prios.length:Nat):Int) then (20:Int) else ((prios.length:Nat):Int))=((min 20 prios.length:Nat):Int):=by split <;> omega
 have t20:List.take (min 20 prios.length) (prios.map I)=(prios.take 20).map I:=by rw [List.map_take,List.take_eq_take_min (i:=20) (l:=prios.map I),List.length_map]
 have q20:min 20 prios.length≤prios.length:=Nat.min_le_right _ _
 generalize hP:prios.take 20=P at *
 generalize hb1:decide (min 20 prios.length=prios.length)=b1 at *
 have kR:=rRight_ans d1 d2 X
 have kF2:=failed_ans 2
 have kF260:=failed_ans 260
 cases ho:okT X with
 | false =>
  rw [ho] at kR
  have kN:=fun c'=>New_bad d1 d2 c' X P ho
  clear hX ho hP
  cases P with
  | nil =>
   simp only [List.map_nil] at *
   refine ans_go 1 1 il3_eq (Nat.le_of_ble_eq_true rfl) ?_
   (repeat' first|simp only [il3c,go_sem,k0,k1,m20,t20,q20,hb1,kR,kN,kF260]|(with_reducible first|apply wD|apply wT|(apply wM; intro)|(apply wL; intro))|((with_reducible first|refine wA ?_ ?_|refine wE ?_); rfl))
  | cons y ys =>
   have hroom:(ys.length+1)*8≤roomB:=ap_room (by simp at hP20; omega) (by omega)
   have fz:∀ (hx:Heap) (p:Nat→Bool) o,p o=true→hx[o]? = some (.row 1 (.t (I y)::(ys.map I).map .t) 0)→frz hx p (.ms o (ys.length+1) 0 (ys.length+1) 1 false)=some (.t (.sl false 1 (I y::ys.map I))):=fun hx p o hp' hg'=>frz_msr (enc:=I) (l:=y::ys) hp' hg' (Nat.zero_le _) rfl
   simp only [List.map_cons] at *
   refine ans_go 1 1 il3_eq (Nat.le_of_ble_eq_true rfl) ?_
   (repeat' first|simp only [il3c,go_sem,k0,k1,m20,t20,q20,hb1,kR,hroom,fz,kN,kF260]|(with_reducible first|apply wD|apply wT|(apply wM; intro)|(apply wL; intro))|((with_reducible first|refine wA ?_ ?_|refine wE ?_); rfl))
 | true =>
  rw [ho] at kR
  have kP:=fun c'=>rPrios_ans c' d1 d2 X P (by omega)
  cases hr:rankL X P with
  | false =>
   rw [hr] at kP
   have kN:=fun c'=>New_arg d1 d2 c' X P ho (by omega) hr
   clear hX ho hP hr
   cases P with
   | nil =>
    simp only [List.map_nil] at *
    refine ans_go 1 1 il3_eq (Nat.le_of_ble_eq_true rfl) ?_
    (repeat' first|simp only [il3c,go_sem,k0,k1,m20,t20,q20,hb1,kR,kN,kP,kF2]|(with_reducible first|apply wD|apply wT|(apply wM; intro)|(apply wL; intro))|((with_reducible first|refine wA ?_ ?_|refine wE ?_); rfl))
   | cons y ys =>
    have hroom:(ys.length+1)*8≤roomB:=ap_room (by simp at hP20; omega) (by omega)
    have fz:∀ (hx:Heap) (p:Nat→Bool) o,p o=true→hx[o]? = some (.row 1 (.t (I y)::(ys.map I).map .t) 0)→frz hx p (.ms o (ys.length+1) 0 (ys.length+1) 1 false)=some (.t (.sl false 1 (I y::ys.map I))):=fun hx p o hp' hg'=>frz_msr (enc:=I) (l:=y::ys) hp' hg' (Nat.zero_le _) rfl
    simp only [List.map_cons] at *
    refine ans_go 1 1 il3_eq (Nat.le_of_ble_eq_true rfl) ?_
    (repeat' first|simp only [il3c,go_sem,k0,k1,m20,t20,q20,hb1,kR,hroom,fz,kN,kP,kF2]|(with_reducible first|apply wD|apply wT|(apply wM; intro)|(apply wL; intro))|((with_reducible first|refine wA ?_ ?_|refine wE ?_); rfl))
  | true =>
   rw [hr] at kP
   have kN:=fun c'=>New_ok d1 d2 c' X P ho hr
   have kW:=fun c'=>rNew_ans d1 d2 c' X P ho hr
   obtain ⟨z1,z2,z3⟩:=okT_size ho
   obtain ⟨s1,s2⟩:=new_same ho hr
   have hv:=VN.new ho hr
   have kC:=CheckN_ans ⟨false,false,false,false,true⟩ _ hv.z (show P.length≤900 by omega) (by have:=hv.bl; dsimp only at this ⊢; omega)
   rw [if_pos hv.ok] at kC
   have kL:=fun c'=>like_ans ⟨false,false,false,false,true⟩ ⟨d1,d2,c',true,false⟩ ⟨X,P,List.replicate X.links.length false,newL (newW X P)⟩ ⟨X,P,List.replicate X.links.length false,(List.range X.nodes.toNat).map (rnewX X P)⟩ rfl rfl rfl (by dsimp only; omega) (by dsimp only; omega) (by dsimp only; omega) (by simp; omega) s1 s2
   clear hv s1 s2
   generalize newL (newW X P)=B1 at *
   generalize (List.range X.nodes.toNat).map (rnewX X P)=B2 at *
   generalize List.replicate X.links.length false=D at *
   clear hX ho hP hr
   cases P with
   | nil =>
    simp only [nwT,nwC,List.map_nil] at *
    refine ans_go 1 1 il3_eq (Nat.le_of_ble_eq_true rfl) ?_
    (repeat' first|simp only [il3c,go_sem,k0,k1,m20,t20,q20,hb1,kR,kN,kP,kW,kL,kC]|(with_reducible first|apply wD|apply wT|(apply wM; intro)|(apply wL; intro))|((with_reducible first|refine wA ?_ ?_|refine wE ?_); rfl))
   | cons y ys =>
    have hroom:(ys.length+1)*8≤roomB:=ap_room (by simp at hP20; omega) (by omega)
    have fz:∀ (hx:Heap) (p:Nat→Bool) o,p o=true→hx[o]? = some (.row 1 (.t (I y)::(ys.map I).map .t) 0)→frz hx p (.ms o (ys.length+1) 0 (ys.length+1) 1 false)=some (.t (.sl false 1 (I y::ys.map I))):=fun hx p o hp' hg'=>frz_msr (enc:=I) (l:=y::ys) hp' hg' (Nat.zero_le _) rfl
    simp only [nwT,nwC,List.map_cons] at *
    refine ans_go 1 1 il3_eq (Nat.le_of_ble_eq_true rfl) ?_
    (repeat' first|simp only [il3c,go_sem,k0,k1,m20,t20,q20,hb1,kR,hroom,fz,kN,kP,kW,kL,kC]|(with_reducible first|apply wD|apply wT|(apply wM; intro)|(apply wL; intro))|((with_reducible first|refine wA ?_ ?_|refine wE ?_); rfl))
end Go.Proofs.YtbibdnlbpjnieaaGreat
namespace Go.Proofs.YtbibdnlbpjnieaaGreat
open Go Go.Abs
theorem ints_one {x:T} (f:FitE Tryz.prog 3 x):∃ a,x=I a:=by
 obtain ⟨n0,rfl,w0⟩:=fit_leaf (l:=.int .i64) (by kernel_rfl) (by kernel_rfl) f
 exact ⟨n0,rfl⟩
theorem ints {xs:List T} (h:∀ y∈xs,FitE Tryz.prog 3 y):∃ l,xs=List.map I l:=list_enc (fun y hy=>ints_one (h y hy))
theorem bools_one {x:T} (f:FitE Tryz.prog 4 x):∃ a,x=B a:=by
 obtain ⟨b0,rfl⟩:=fit_leaf (l:=.bool) (by kernel_rfl) (by kernel_rfl) f
 exact ⟨b0,rfl⟩
theorem bools {xs:List T} (h:∀ y∈xs,FitE Tryz.prog 4 y):∃ l,xs=List.map B l:=list_enc (fun y hy=>bools_one (h y hy))
theorem links_one {x:T} (f:FitE Tryz.prog 70 x):∃ a,x=encK a:=by
 obtain ⟨c,rfl,g⟩:=fit_agg (ls:=[.int .i64,.int .i64,.int .i64,.int .i64]) (by kernel_rfl) (by kernel_rfl) f
 obtain ⟨y0,q0,rfl,v0,g⟩:=leafs_cons g
 obtain ⟨y1,q1,rfl,v1,g⟩:=leafs_cons g
 obtain ⟨y2,q2,rfl,v2,g⟩:=leafs_cons g
 obtain ⟨y3,q3,rfl,v3,g⟩:=leafs_cons g
 obtain rfl:=leafs_nil g
 obtain ⟨n0,rfl,w0⟩:=v0
 obtain ⟨n1,rfl,w1⟩:=v1
 obtain ⟨n2,rfl,w2⟩:=v2
 obtain ⟨n3,rfl,w3⟩:=v3
 exact ⟨⟨n0,n1,n2,n3⟩,rfl⟩
theorem links {xs:List T} (h:∀ y∈xs,FitE Tryz.prog 70 y):∃ l,xs=List.map encK l:=list_enc (fun y hy=>links_one (h y hy))
end Go.Proofs.YtbibdnlbpjnieaaGreat
