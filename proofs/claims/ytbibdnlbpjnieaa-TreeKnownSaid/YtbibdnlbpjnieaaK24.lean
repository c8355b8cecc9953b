/- Part 24 of the proof of TreeKnown. -/
import Derived.Test.YtbibdnlbpjnieaaK23
set_option linter.all false
set_option maxRecDepth 100000
set_option maxHeartbeats 4000000
namespace Go.Proofs.Ytbibdnlbpjnieaa
open Go Go.Abs
def bestAt (w:Nw) (R:List (Int × Int)) (D:List Int) (n:Nat):Int:=if stA w.t n=true then 0 else bestN w R D n
def bestL (w:Nw) (R:List (Int × Int)) (D:List Int):List Int:=(List.range w.bs.length).map (bestAt w R D)
theorem rtRoundL_len (w:Nw) (R:List (Int × Int)):(rtRoundL w R).length=R.length:=by
 unfold rtRoundL
 generalize w.t.links.length=k
 induction k with
 | zero=>rfl
 | succ k ih =>
  rw [List.range_succ,List.foldl_append,List.foldl_cons,List.foldl_nil]
  generalize (List.range k).foldl (upS w (rtS1 w)) R=S at *
  unfold upS
  split
  ·simp [rtS1,ih]
  ·exact ih
theorem rootsL_len (w:Nw):(rootsL w).length=w.t.nodes.toNat:=by
 unfold rootsL
 generalize hN:w.t.nodes.toNat=N
 have:∀ k,((List.range k).foldl (fun R _=>rtRoundL w R) (rt0 w)).length=N:=by
  intro k
  induction k with
  | zero=>simp [rt0,hN]
  | succ k ih=>rw [List.range_succ,List.foldl_append,List.foldl_cons,List.foldl_nil,rtRoundL_len,ih]
 exact this N
theorem distL_ok {w:Nw} (hok:okT w.t=true) (R:List (Int × Int)):(distL w R).length=w.t.nodes.toNat∧∀ x∈distL w R,0≤x∧x≤12000:=by
 have h0:dsI w (ds0 w R,0):=by
  refine ⟨⟨by simp [ds0],Nat.zero_le _⟩,fun x hx=>?_⟩
  simp only [ds0,List.mem_map] at hx
  obtain ⟨m,_,rfl⟩:=hx
  split <;> omega
 have:∀ k,dsI w ((List.range k).foldl (fun s _=>dsRound w s) (ds0 w R,0)):=by
  intro k
  induction k with
  | zero=>exact h0
  | succ k ih=>rw [List.range_succ,List.foldl_append,List.foldl_cons,List.foldl_nil]; exact dsRound_ok hok ih
 have h:=this w.t.nodes.toNat
 have e:((List.range w.t.nodes.toNat).foldl (fun s _=>dsRound w s) (ds0 w R,0)).1=distL w R:=fold_fst (fun s _=>dsRound w s) (fun D _=>dsRoundL w D) (fun s _=>dsRound_fst w s) _ _
 obtain ⟨⟨h1,h2⟩,h3⟩:=h
 rw [e] at h1 h3
 exact ⟨h1,h3⟩
theorem snap_box {h:Heap} {o d:Nat} {x:AV} {t:T} (ho:h[o]? = some (.row 1 [x] 1)) (hx:x.cells=[x]) (hs:snap h allObj d x=some t):snap h allObj (d+1) (.ref o 1 0 0)=some (.ip [t]):=by
 rw [sn_ref,row_at ho (Nat.le_refl _) (by omega) (by simp)]
 simp [snR_some,hx,mapO,hs,snR.snO]
theorem snap_fn {h:Heap} {d:Nat} {g:Fn} {b:List AV} {ts:List T} (hs:mapO (snap h allObj d) b=some ts):snap h allObj (d+1) (.fn g [] b)=some (.fn g [] ts):=by
 simp only [snap,mapO,hs]
theorem goal_ans (f:Fl) (w:Nw) (hok:okT w.t=true) (hbl:(w.bs.length:Int)=w.t.nodes) (hpl:(w.prios.length:Int)=w.t.nodes) (hdl:w.down.length=w.t.links.length):ans Try.prog pol 25 [nwT f w] =
  some (.fn (.func 50) [] [.ip [.sl true 1 ((distL w (rootsL w)).map I)],.ip (nwC f w),.ip [.sl true 1 ((bestL w (rootsL w) (distL w (rootsL w))).map I)],.ip [.fn (.func 48) [] (gcap1 f w true (distL w (rootsL w)))]]):=by
 obtain ⟨z1,z2,z3⟩:=okT_size hok
 have kr:=roots_ans f w hok hpl hdl
 have hRl:=rootsL_len w
 have kd:=distances_ans f true w (rootsL w) hok hpl hdl hRl
 obtain ⟨hDl,hDb⟩:=distL_ok hok (rootsL w)
 generalize hR:rootsL w=R at *
 generalize hD:distL w R=D at *
 have hNb:w.t.nodes.toNat=w.bs.length:=by omega
 have hNn:w.t.nodes=(w.bs.length:Nat):=by omega
 have hroom:8*w.bs.length≤roomB:=by rw [Nat.mul_comm]; exact ap_room (by omega) (by omega)
 have hbig:w.bs.length≤9223372036854775807:=by omega
 have hb100:w.bs.length≤100:=by omega
 obtain ⟨nn,h2000⟩:∃ nn,2000 < nn:=⟨2001,by omega⟩
 have hn2:200 < nn:=by omega
 have asn:asNat (.t (I w.t.nodes))=some w.bs.length:=by rw [hNn]; rfl
 refine ans_go nn 6 il25_eq (Nat.le_of_ble_eq_true rfl) ?_
 simp only [il25c]
 generalize hrf:rfOf Try.prog 25 0=rf
 have hrep:List.replicate w.bs.length (AV.t (T.sc (Value.int IntKind.i64 0)))=((List.replicate w.bs.length (0:Int)).map I).map .t:=by simp
 (repeat' first|simp only [List.cons_append,List.nil_append,go_sem,hroom,hbig,asn,kr,kd,hrep,frz_mapA]|(with_reducible first|apply wD|apply wT|(apply wM; intro)|(apply wL; intro))|((with_reducible first|refine wA ?_ ?_|refine wE ?_); rfl)|((with_reducible refine oB_inl il26_eq ?_ ?_); exact Nat.le_of_ble_eq_true rfl; simp only [il26c]))
 have key:∀ E:FEnv,([.row 1 [.t (.sl true 2 (R.map encP))] 1,.gone,.row 1 (((List.replicate w.bs.length (0:Int)).map I).map .t) 0,.row 1 [.ms 2 w.bs.length 0 w.bs.length 1 true] 1,.row 1 [.t (.fn (.func 48) [] (gcap1 f w true D))] 1,.loop 25 (lpEnv 94 (tidyF (some [1,3,5,6]) E)) [25,26] rf.1 rf.2 false none]:Heap)=hpGl f w R D rf E false (List.replicate w.bs.length 0,0):=fun E=>by rw [← hNb]; rfl
 simp only [gcap1] at key
 rw [key]
 have h56:5 < 6:=by omega
 have hI0:(List.replicate w.bs.length (0:Int),0).1=fillL (bestAt w R D) 0 w.bs.length 0∧(List.replicate w.bs.length (0:Int),0).2≤w.bs.length:=⟨(fillL_zero _ _ _).symm,Nat.zero_le _⟩
 have hstep:∀ (n:Nat) (s:List Int × Nat),n < w.bs.length→(s.1=fillL (bestAt w R D) 0 w.bs.length n∧s.2≤w.bs.length)→((stS w.t (fun (s:List Int × Nat) n=>(s.1.set n (bestN w R D n),w.bs.length)) s n).1=fillL (bestAt w R D) 0 w.bs.length (n+1)∧(stS w.t (fun (s:List Int × Nat) n=>(s.1.set n (bestN w R D n),w.bs.length)) s n).2≤w.bs.length):=by
  intro n s hnb hI
  unfold stS
  by_cases hs:stA w.t n=true
  ·rw [if_pos hs,fillL_same hnb (by rw [bestAt,if_pos hs])]
   exact hI
  ·rw [if_neg hs]
   refine ⟨?_,Nat.le_refl _⟩
   show s.1.set n _=_
   rw [hI.1]
   exact fillL_set hnb (by rw [bestAt,if_neg hs])
 with_reducible refine @all_iterT (List Int × Nat) (fun s=>hpGl f w R D rf _ false s) 6 (fun s=>rfl) (fun s n=>(s.1.set n (bestN w R D n),w.bs.length)) 5 nn 5 (fun n s=>s.1=fillL (bestAt w R D) 0 w.bs.length n∧s.2≤w.bs.length) w hstep ?_ h56 f z2 hbl hb100 ?_ (List.replicate w.bs.length 0,0) hI0 _ hn2 ?_
 ·intro s h q hq
  exact hpGl_frz f w R D rf _ (by simp only [go_sem,glE]) false s h q hq
 ·intro s n x Q hx hs hI hQ
  have hnl:n < w.bs.length:=(List.getElem?_eq_some_iff.1 hx).1
  have hI:s.1=fillL (bestAt w R D) 0 w.bs.length n∧s.2≤w.bs.length:=hI
  have hQ':∀ X',Q (.t (B true)) (hpGl f w R D rf _ false (s.1.set n (bestN w R D n),w.bs.length)++[.row 5 [.t (.agg (bxC x))] 1]++X'):=hQ
  have hl:s.1.length=w.bs.length:=by rw [hI.1]; exact fillL_len _ _ (Nat.le_of_lt hnl)
  have hy:=fun E hE=>@goal_yield f w R D hok hbl hpl hdl hDl hDb hRl rf hrf E hE s ⟨by omega,by omega⟩ n (bxC x) hnl 4 nn hn2 Q
  rw [hNb] at hy
  with_reducible exact hy _ (by simp only [go_sem,glE]) hQ'
 ·intro v
  have hfin:∀ k,k≤w.bs.length→((List.range k).foldl (stS w.t (fun (s:List Int × Nat) n=>(s.1.set n (bestN w R D n),w.bs.length))) (List.replicate w.bs.length 0,0)).1=fillL (bestAt w R D) 0 w.bs.length k∧((List.range k).foldl (stS w.t (fun (s:List Int × Nat) n=>(s.1.set n (bestN w R D n),w.bs.length))) (List.replicate w.bs.length 0,0)).2≤w.bs.length:=by
   intro k
   induction k with
   | zero=>intro _; exact hI0
   | succ k ih =>
    intro hk
    rw [List.range_succ,List.foldl_append,List.foldl_cons,List.foldl_nil]
    exact hstep k _ (by omega) (ih (by omega))
  obtain ⟨hf1,hf2⟩:=hfin w.bs.length (Nat.le_refl _)
  generalize (List.range w.bs.length).foldl _ _=s at *
  rw [fillL_all] at hf1
  change rfEnd _ _ _ v (hpGl f w R D rf _ false s)
  have hbL:bestL w R D=s.1:=by rw [hf1]; rfl
  rw [hbL]
  have hl4:s.1.length=w.bs.length:=by rw [hf1]; simp
  have hl5:((s.1.map I).map AV.t).length=w.bs.length:=by simp [hl4]
  simp only [hpGl,lpGl,hNb,gcap1,List.cons_append,List.nil_append]
  (repeat' first|simp only [il25c,go_sem,frz_mapA,hf2,hl5]|(with_reducible first|apply wD|apply wT|(apply wM; intro)|(apply wL; intro))|((with_reducible first|refine wA ?_ ?_|refine wE ?_); rfl))
  generalize hH:([AObj.row 1 [AV.t (T.sl true 2 (List.map encP R))] 1,AObj.gone,AObj.row 1 (List.map AV.t (List.map I s.fst)) s.snd,AObj.row 1 [AV.ms 2 w.bs.length 0 w.bs.length 1 true] 1,AObj.row 1 [AV.t (T.fn (Fn.func 48) [] [T.ip (nwC f w),T.ip [T.sl true 1 (List.map I D)]])] 1]:Heap)=H
  have e0:snap H allObj 18 (.ms 2 w.bs.length 0 w.bs.length 1 true)=some (.sl true 1 (s.1.map I)):=snap_msr (d:=16) rfl (by rw [← hH]; rfl) hf2 hl4.symm
  have e1:snap H allObj 19 (.ref 3 1 0 0)=some (.ip [.sl true 1 (s.1.map I)]):=snap_box (by rw [← hH]; rfl) rfl e0
  have e2:snap H allObj 19 (.ref 4 1 0 0)=some (.ip [T.fn (Fn.func 48) [] [T.ip (nwC f w),T.ip [T.sl true 1 (List.map I D)]]]):=snap_box (by rw [← hH]; rfl) rfl (sn_t)
  exact snap_fn (by simp only [mapO,sn_t,e1,e2])
end Go.Proofs.Ytbibdnlbpjnieaa
namespace Go.Proofs.Ytbibdnlbpjnieaa
open Go Go.Abs
def goalW (w:Nw) (n p:Nat):Int:=goalG w (distL w (rootsL w)) (bestL w (rootsL w) (distL w (rootsL w))) n p
theorem GoalT_ok (f:Fl) (w:Nw) (hz:zOk w) (hok:okN w=true):ans Try.prog pol 9 [nwT f w]=some (.tup [.sl true 1 ((asL w (goalW w)).map I),I 0]):=by
 have hO:=okN_ok hok hz
 obtain ⟨z1,z2,z3⟩:=okT_size hO.t
 have hpl:=rankL_len hO.rank
 have hbl:=hO.bl
 have k1:=CheckN_ans f w hz (by omega) (by omega)
 rw [if_pos hok] at k1
 have kg:=goal_ans f w hO.t hbl hpl hO.dl
 obtain ⟨hDl,hDb⟩:=distL_ok hO.t (rootsL w)
 have hbL:(bestL w (rootsL w) (distL w (rootsL w))).length=w.t.nodes.toNat:=by simp [bestL]; omega
 have k2:=assign_ans f w 50 _ (goalW w) hO.t hbl hO.dl rfl rfl (fun n p hn hs hp _=>goal2_ans f w true (distL w (rootsL w)) hO.t hpl hDl hDb true (bestL w (rootsL w) (distL w (rootsL w))) hbL n p (by omega) (trunk_lt hp))
 refine ans_go 2000 5 il9_eq (Nat.le_of_ble_eq_true rfl) ?_
 simp only [il9c]
 (repeat' first|simp only [List.cons_append,List.nil_append,go_sem,k1,kg,k2]|(with_reducible first|apply wD|apply wT|(apply wM; intro)|(apply wL; intro))|((with_reducible first|refine wA ?_ ?_|refine wE ?_); rfl))
end Go.Proofs.Ytbibdnlbpjnieaa
namespace Go.Proofs.Ytbibdnlbpjnieaa
open Go Go.Abs
section
variable {w:Nw} (h:VN w)
include h
end
end Go.Proofs.Ytbibdnlbpjnieaa
namespace Go.Proofs.Ytbibdnlbpjnieaa
open Go Go.Abs
section
variable {w:Nw} (h:VN w)
include h
end
end Go.Proofs.Ytbibdnlbpjnieaa
namespace Go.Proofs.Ytbibdnlbpjnieaa
open Go Go.Abs
def msgH (h:Hd):Msg:=⟨16*h.a+h.b,h.c,16*h.d+h.e,h.f,h.g⟩
def hM (h:Hd):Option Msg:=if h.is=true then some (msgH h) else none
section
variable {w:Nw} (h:VN w)
include h
end
def runW (w:Nw):Nat→Nw
 | 0=>w
 | T+1=>rndW (runW w T)
theorem VN.run {w:Nw} (h:VN w) (T:Nat):VN (runW w T):=by
 induction T with
 | zero=>exact h
 | succ T ih=>exact ih.rnd
end Go.Proofs.Ytbibdnlbpjnieaa
namespace Go.Proofs.Ytbibdnlbpjnieaa
open Go Go.Abs
abbrev fl1:Fl:=⟨false,false,false,false,true⟩
theorem RoundV (f:Fl) (w:Nw) (h:VN w):ans Try.prog pol 21 [nwT f w]=some (.tup [nwT fl1 (rndW w),I 0]):=Round_ok f w h.z h.ok h.b6
def t3:Tpo:=⟨5,[false,false,false,true,true],[⟨0,1,1,0⟩,⟨1,2,1,0⟩,⟨0,2,5,0⟩,⟨3,0,1,0⟩,⟨4,2,1,0⟩]⟩
theorem three_ans:ans Try.prog pol 16 []=some (tpT true true t3):=ans_of_run (n:=10) 3 (by kernel_rfl)
def pr0:List Int:=[0,0,0,0,0]
def n0:Nw:=⟨t3,pr0,List.replicate t3.links.length false,newL (newW t3 pr0)⟩
def n3:Nw:=⟨(rndW (rndW n0)).t,(rndW (rndW n0)).prios,(rndW (rndW n0)).down.set 1 true,cutL (rndW (rndW n0)) 1⟩
theorem t3_ok:okT t3=true:=by decide +kernel
theorem n0_ok:VN n0:=VN.new t3_ok (by decide +kernel)
theorem n3_ok:VN n3:=n0_ok.rnd.rnd.cut 1
theorem g0_eq:asL n0 (goalW n0)=[2,1,2,1,2,3,0,2,0,2]:=by decide +kernel
theorem r0_eq:asL n0 (roleW n0)=[2,2,2,2,2,2,0,2,0,2]:=by decide +kernel
theorem r2_eq:asL (rndW (rndW n0)) (roleW (rndW (rndW n0)))=[2,1,2,1,2,3,0,2,0,2]:=by decide +kernel
theorem g3_eq:asL n3 (goalW n3)=[2,1,0,0,2,1,0,2,0,2]:=by decide +kernel
theorem wakes_ans:ans Try.prog pol 7 []=some (B true):=by
 have k0:=three_ans
 have k1:ans Try.prog pol 15 [tpT true true t3,.sl true 1 [I 0,I 0,I 0,I 0,I 0]]=some (.tup [nwT fl1 n0,I 0]):=New_ok true true true t3 pr0 t3_ok (by decide +kernel)
 have k2:=GoalT_ok fl1 n0 n0_ok.z n0_ok.ok
 have k3:=RolesT_ok fl1 n0 n0_ok.z n0_ok.ok
 have k4:=RoundV fl1 n0 n0_ok
 have k5:=RoundV fl1 (rndW n0) n0_ok.rnd
 have k6:=RolesT_ok fl1 (rndW (rndW n0)) n0_ok.rnd.rnd.z n0_ok.rnd.rnd.ok
 have k7:ans Try.prog pol 13 [nwT fl1 (rndW (rndW n0)),I 1]=some (.tup [nwT fl1 n3,I 0]):=Cut_ok fl1 (rndW (rndW n0)) n0_ok.rnd.rnd.z n0_ok.rnd.rnd.ok 1 (by decide +kernel) n0_ok.rnd.rnd.b6
 have k8:=GoalT_ok fl1 n3 n3_ok.z n3_ok.ok
 have k9:=Cut_arg fl1 n0 5 n0_ok.z n0_ok.ok (.inr (by decide +kernel))
 rw [g0_eq] at k2
 rw [r0_eq] at k3
 rw [r2_eq] at k6
 rw [g3_eq] at k8
 have e1:=equalI_ans true true [2,1,2,1,2,3,0,2,0,2] [2,1,2,1,2,3,0,2,0,2] (by decide)
 have e2:=equalI_ans true true [2,2,2,2,2,2,0,2,0,2] [2,2,2,2,2,2,0,2,0,2] (by decide)
 have e3:=equalI_ans true true [2,1,0,0,2,1,0,2,0,2] [2,1,0,0,2,1,0,2,0,2] (by decide)
 have d1:decide ([(2:Int),1,2,1,2,3,0,2,0,2]=[2,1,2,1,2,3,0,2,0,2])=true:=by decide
 have d2:decide ([(2:Int),2,2,2,2,2,0,2,0,2]=[2,2,2,2,2,2,0,2,0,2])=true:=by decide
 have d3:decide ([(2:Int),1,0,0,2,1,0,2,0,2]=[2,1,0,0,2,1,0,2,0,2])=true:=by decide
 rw [d1] at e1
 rw [d2] at e2
 rw [d3] at e3
 simp only [List.map_cons,List.map_nil] at k2 k3 k6 k8 e1 e2 e3
 generalize n3=w3 at *
 generalize rndW (rndW n0)=w2 at *
 generalize rndW n0=w1 at *
 generalize n0=w0 at *
 generalize t3=T3 at *
 refine ans_go 100 1 il7_eq (Nat.le_of_ble_eq_true rfl) ?_
 (repeat' first|simp only [il7c,go_sem,k0,k1,k2,k3,k4,k5,k6,k7,k8,k9,e1,e2,e3]|(with_reducible first|apply wD|apply wT|(apply wM; intro)|(apply wL; intro))|((with_reducible first|refine wA ?_ ?_|refine wE ?_); rfl))
end Go.Proofs.Ytbibdnlbpjnieaa
namespace Go.Proofs.Ytbibdnlbpjnieaa
open Go Go.Abs
def u8P (l:List Int):Prop:=(∀ x∈l,0≤x∧x < 256)∧l.length < 9223372036854775808
def pkL (l:List Int) (i:Nat):Int:=l[i]?.getD 0
def lkR (t:Tpo) (l:Lk):Bool:=lk1 t l && (lk2 t l && lk4 l)
end Go.Proofs.Ytbibdnlbpjnieaa
namespace Go.Proofs.Ytbibdnlbpjnieaa
open Go Go.Abs
structure Dr where
 br:Int
 st:Int
 chords:List Int
 homes:List Int
 pers:List Int
 delays:List Int
structure drP (d:Dr):Prop where
 br:0≤d.br∧d.br < 256
 st:0≤d.st∧d.st < 256
 chords:u8P d.chords
 homes:u8P d.homes
 pers:u8P d.pers
 delays:u8P d.delays
def mkK (d:Dr) (n:Nat) (a b:Int):Lk:=⟨a,b,1+pkL d.pers n % 20,pkL d.delays n % 50⟩
def jnL (L:List Lk) (a b:Int):Bool:=L.any (fun l=>decide (l.a=a∧l.b=b∨l.a=b∧l.b=a))
def wth (d:Dr) (N:Int) (st:List Bool) (L:List Lk) (a b:Int):List Lk :=
 if L.length=24∨lkR ⟨N,st,L⟩ (mkK d L.length a b)=false then L else if jnL L a b=true then L else L++[mkK d L.length a b]
end Go.Proofs.Ytbibdnlbpjnieaa
namespace Go.Proofs.Ytbibdnlbpjnieaa
open Go Go.Abs
section
variable (d:Dr)
def brN:Nat:=(1+d.br % 6).toNat
def stN:Nat:=(2+d.st % 5).toNat
def dSt:List Bool:=(List.range (brN d+stN d)).map (fun n=>decide (brN d≤n))
def wD (L:List Lk) (a b:Int):List Lk:=wth d ((brN d+stN d:Nat):Int) (dSt d) L a b
end
section
variable (c1 c2 c3 c4:Bool) (d:Dr) (hd:drP d)
include hd
end
end Go.Proofs.Ytbibdnlbpjnieaa
namespace Go.Proofs.Ytbibdnlbpjnieaa
open Go Go.Abs
section
variable (c1 c2 c3 c4:Bool) (d:Dr) (hd:drP d)
include hd
end
end Go.Proofs.Ytbibdnlbpjnieaa
namespace Go.Proofs.Ytbibdnlbpjnieaa
open Go Go.Abs
section
variable (p5 n5 p8:Nat) (hn5:n5≤1) (l0:Lk)
include hn5
variable (c1 c2 c3 c4:Bool) (d:Dr) (hd:drP d)
include hd
end
end Go.Proofs.Ytbibdnlbpjnieaa
namespace Go.Proofs.Ytbibdnlbpjnieaa
open Go Go.Abs
end Go.Proofs.Ytbibdnlbpjnieaa
namespace Go.Proofs.Ytbibdnlbpjnieaa
open Go Go.Abs
end Go.Proofs.Ytbibdnlbpjnieaa
namespace Go.Proofs.Ytbibdnlbpjnieaa
open Go Go.Abs
section
variable {d:Dr} (hd:drP d)
include hd
def lkV (d:Dr) (l:Lk):Prop:=(0≤l.a∧l.a < ((brN d+stN d:Nat):Int))∧(0≤l.b∧l.b < ((brN d+stN d:Nat):Int))∧l.a≠l.b∧(l.a < (brN d:Nat)∨l.b < (brN d:Nat))∧(1≤l.per∧l.per≤1000)∧0≤l.delay∧l.delay≤10000
structure Snd (d:Dr) (L:List Lk):Prop where
 v:∀ l∈L,lkV d l
 j:L.Pairwise (fun m l=>joins l m=false)
 n:L.length≤24
structure Lnk2 (d:Dr) (L:List Lk):Prop where
 s:Snd d L
 chain:∀ i,i < brN d - 1→∃ l∈L,l.a=(i:Nat)∧l.b=((i+1:Nat):Int)
 home:∀ s,s < stN d→∃ l∈L,l.a=((brN d+s:Nat):Int)∧(0≤l.b∧l.b < (brN d:Nat))
end
end Go.Proofs.Ytbibdnlbpjnieaa
namespace Go.Proofs.Ytbibdnlbpjnieaa
open Go Go.Abs
theorem cloneX_fresh (c:Bool) (l:List Bx) (hl:l.length≤1000) (hne:l≠[]) (m dd nn:Nat) (hn:0 < nn) (Q:AV→Heap→Prop) (hQ:Q (.ms m l.length 0 l.length 5 false) (List.replicate m .gone++[.row 5 ((l.map encX).map .t) 0])) :
  oB (inl Try.prog pol (ans Try.prog pol) nn (dd+1) (.fn 17) [.t (.sl c 5 (l.map encX))] (List.replicate m .gone)) Q:=by
 cases l with
 | nil=>exact absurd rfl hne
 | cons x l =>
  have hroom:(l.length+1)*88≤roomB:=ap_room (by simp at hl; omega) (by omega)
  refine oB_inl il17_eq (Nat.le_of_ble_eq_true rfl) ?_
  simp only [List.map_cons,List.length_cons] at hQ ⊢
  (repeat' first|simp only [il17c,go_sem,hroom,List.length_replicate]|(with_reducible first|apply wD|apply wT|(apply wM; intro)|(apply wL; intro))|((with_reducible first|refine wA ?_ ?_|refine wE ?_); rfl))
  all_goals exact hQ
structure Gh where
 n:Int
 p:Int
 h:Hd
end Go.Proofs.Ytbibdnlbpjnieaa
namespace Go.Proofs.Ytbibdnlbpjnieaa
open Go Go.Abs
abbrev fl0:Fl:=⟨false,false,false,false,false⟩
def loudH:Hd:=⟨true,0,0,0,0,0,1,0⟩
theorem newZ_ans:ans Try.prog pol 15 [.agg [I 0,(.sc (.slice none 0 0)),(.sc (.slice none 0 0))],(.sc (.slice none 0 0))]=some (.tup [zN6,I 260]):=ans_of_run (n:=400) 30 (by kernel_rfl)
theorem checkZ_ans:ans Try.prog pol 18 [.agg [I 0,(.sc (.slice none 0 0)),(.sc (.slice none 0 0)),(.sc (.slice none 0 0)),(.sc (.slice none 0 0)),(.sc (.slice none 0 0))]]=some (I 300):=ans_of_run (n:=400) 30 (by kernel_rfl)
theorem encX_five (x:Bx):∃ u1 u2 u3 u4 u5,encX x=.agg [u1,u2,u3,u4,u5]∧(storable (.t u1)=true∧storable (.t u2)=true∧storable (.t u3)=true∧storable (.t u4)=true∧storable (.t u5)=true):=by
 unfold encX bxC
 split
 ·exact ⟨_,_,_,_,_,rfl,rfl,rfl,rfl,rfl,rfl⟩
 ·exact ⟨_,_,_,_,_,rfl,rfl,rfl,rfl,rfl,rfl⟩
theorem known_walk (t:Tpo) (pr:List Int) (dn dc:List Bool) (x0 x1 x2 x3 x4 y1 y2 y3 y4:Bx) (c1 c2 c3:Bool) (bp bn:Int) (po co:List Int) (h0 h1:Hd)
  (k0:ans Try.prog pol 16 []=some (tpT true true t))
  (kf:ans Try.prog pol 15 [tpT true true t,.sl true 1 [I 0,I 0,I 0,I 0]]=some (.tup [zN6,I 2]))
  (kh:ans Try.prog pol 15 [tpT true true t,.sl true 1 [I 0,I 0,I 16,I 0,I 0]]=some (.tup [zN6,I 2]))
  (kl:ans Try.prog pol 15 [tpT true true t,.sl true 1 [I 0,I 0,I (-1),I 0,I 0]]=some (.tup [zN6,I 2]))
  (kn:ans Try.prog pol 15 [tpT true true t,.sl true 1 [I 1,I 1,I 0,I 0,I 0]]=some (.tup [nwT fl1 ⟨t,pr,dn,[x0,x1,x2,x3,x4]⟩,I 0]))
  (kg:ans Try.prog pol 9 [nwT fl1 ⟨t,pr,dn,[x0,x1,x2,x3,x4]⟩]=some (.tup [.sl true 1 [I 1,I 2,I 1,I 2,I 3,I 2,I 0,I 2,I 0,I 2],I 0]))
  (kr:ans Try.prog pol 14 [nwT fl1 ⟨t,pr,dn,[x0,x1,x2,x3,x4]⟩,I (-1)]=some (.tup [zN6,I 2]))
  (kc:ans Try.prog pol 13 [nwT fl1 ⟨t,pr,dn,[x0,x1,x2,x3,x4]⟩,I 0]=some (.tup [nwT fl1 ⟨t,pr,dc,[⟨false,c1,c2,c3,⟨bp,bn,po,co,[h0,h1]⟩⟩,y1,y2,y3,y4]⟩,I 0]))
  (e1:ans Try.prog pol 18 [nwT fl0 ⟨t,pr,dn,[x0,x1,x2,x0,x4]⟩]=some (I 300))
  (e2:ans Try.prog pol 18 [nwT fl1 ⟨t,pr,dc,[⟨false,c1,c2,c3,⟨bp,bn,po,co,[h0,h1]⟩⟩,y1,y2,y3,y4]⟩]=some (I 0))
  (e3:ans Try.prog pol 18 [nwT fl0 ⟨t,pr,dc,[⟨false,c1,c2,true,⟨bp,bn,po,co,[loudH,zH]⟩⟩,y1,y2,y3,y4]⟩]=some (I 300)) :
  ans Try.prog pol 5 []=some (B true):=by
 have kw:=wakes_ans
 have kz:=newZ_ans
 have ez:=checkZ_ans
 have ee:=equalI_ans true true [1,2,1,2,3,2,0,2,0,2] [1,2,1,2,3,2,0,2,0,2] (by decide)
 have dd:decide ([(1:Int),2,1,2,3,2,0,2,0,2]=[1,2,1,2,3,2,0,2,0,2])=true:=by decide
 rw [dd] at ee
 simp only [List.map_cons,List.map_nil] at ee
 simp only [nwT,nwC,List.map_cons,List.map_nil] at kn kg kr kc e1 e2 e3
 have c0:=fun Q=>@cloneX_fresh true [x0,x1,x2,x3,x4] (by simp) (by simp) 7 4 2000 (by omega) Q
 have cl1:=fun Q=>@cloneX_fresh true [⟨false,c1,c2,c3,⟨bp,bn,po,co,[h0,h1]⟩⟩,y1,y2,y3,y4] (by simp) (by simp) 10 4 2000 (by omega) Q
 simp only [List.map_cons,List.map_nil,List.length_cons,List.length_nil,Nat.zero_add,Nat.reduceAdd] at c0 cl1
 have hy:∀ c hs,encX ⟨false,c1,c2,c,⟨bp,bn,po,co,hs⟩⟩=.agg [I bp,I bn,.sl c1 1 (po.map I),.sl c2 1 (co.map I),.sl c 8 (hs.map encH)]:=fun _ _=>rfl
 rw [hy] at cl1 kc e2 e3
 simp only [List.map_cons,List.map_nil] at cl1 kc e2 e3
 have hh1:encH loudH=.agg [.sc (.bool true),.sc (.int .i64 0),.sc (.int .i64 0),.sc (.int .i64 0),.sc (.int .i64 0),.sc (.int .i64 0),.sc (.int .i64 1),.sc (.int .i64 0)]:=rfl
 have hh2:encH zH=.agg [.sc (.bool false),.sc (.int .i64 0),.sc (.int .i64 0),.sc (.int .i64 0),.sc (.int .i64 0),.sc (.int .i64 0),.sc (.int .i64 0),.sc (.int .i64 0)]:=rfl
 rw [hh1,hh2] at e3
 obtain ⟨u1,u2,u3,u4,u5,hu,su⟩:=encX_five x0
 obtain ⟨v1,v2,v3,v4,v5,hv,sv⟩:=encX_five x3
 rw [hu,hv] at c0
 rw [hu,hv] at kn kg kr kc
 rw [hu] at e1
 refine ans_go 2000 5 il5_eq (Nat.le_of_ble_eq_true rfl) ?_
 (repeat' first|simp only [il5c,go_sem,k0,kw,kf,kh,kl,kn,kz,kg,kr,kc,ee]|(with_reducible first|apply wD|apply wT|(apply wM; intro)|(apply wL; intro))|((with_reducible first|refine wA ?_ ?_|refine wE ?_); rfl))
 with_reducible refine c0 _ ?_
 (repeat' first|simp only [freshK_app,List.replicate_succ,List.replicate_zero,List.drop_succ_cons,List.drop_zero,List.cons_append,List.nil_append,il5c,go_sem,kc,su]|(with_reducible first|apply wD|apply wT|(apply wM; intro)|(apply wL; intro))|((with_reducible first|refine wA ?_ ?_|refine wE ?_); rfl))
 simp only [List.replicate_succ,List.replicate_zero] at cl1
 with_reducible refine cl1 _ ?_
 (repeat' first|simp only [freshK_app,List.replicate_succ,List.replicate_zero,List.drop_succ_cons,List.drop_zero,List.cons_append,List.nil_append,il5c,go_sem,ez,ee,e1,e2,e3,su]|(with_reducible first|apply wD|apply wT|(apply wM; intro)|(apply wL; intro))|((with_reducible first|refine wA ?_ ?_|refine wE ?_); rfl))
def pr1:List Int:=[1,1,0,0,0]
def n1:Nw:=⟨t3,pr1,List.replicate t3.links.length false,newL (newW t3 pr1)⟩
def n2:Nw:=⟨n1.t,n1.prios,n1.down.set 0 true,cutL n1 0⟩
theorem n1_ok:VN n1:=VN.new t3_ok (by decide +kernel)
theorem n2_ok:VN n2:=n1_ok.cut 0
theorem g1_eq:asL n1 (goalW n1)=[1,2,1,2,3,2,0,2,0,2]:=by decide +kernel
def nb:Nw:=⟨t3,pr1,n1.down,[bxA n1 0,bxA n1 1,bxA n1 2,bxA n1 0,bxA n1 4]⟩
def y0:Bx:=bxA n2 0
def nl:Nw:=⟨t3,pr1,n2.down,[⟨false,y0.c1,y0.c2,true,⟨y0.b.p,y0.b.n,y0.b.ports,y0.b.costs,[loudH,zH]⟩⟩,bxA n2 1,bxA n2 2,bxA n2 3,bxA n2 4]⟩
theorem nb_z:zOk nb:=by
 intro n hn hz
 have:n < 5:=hn
 rcases (by omega:n=0∨n=1∨n=2∨n=3∨n=4) with rfl|rfl|rfl|rfl|rfl
 ·exact absurd hz (by decide +kernel)
 ·exact absurd hz (by decide +kernel)
 ·exact absurd hz (by decide +kernel)
 ·exact absurd hz (by decide +kernel)
 ·exact ⟨by decide +kernel,by kernel_rfl⟩
theorem nl_z:zOk nl:=by
 intro n hn hz
 have:n < 5:=hn
 rcases (by omega:n=0∨n=1∨n=2∨n=3∨n=4) with rfl|rfl|rfl|rfl|rfl
 ·exact absurd hz (by decide +kernel)
 ·exact absurd hz (by decide +kernel)
 ·exact absurd hz (by decide +kernel)
 ·exact ⟨by decide +kernel,by kernel_rfl⟩
 ·exact ⟨by decide +kernel,by kernel_rfl⟩
theorem n1_eq:n1=⟨t3,pr1,n1.down,[bxA n1 0,bxA n1 1,bxA n1 2,bxA n1 3,bxA n1 4]⟩:=by kernel_rfl
theorem n2_eq:n2=⟨t3,pr1,n2.down,[⟨false,y0.c1,y0.c2,y0.c3,⟨y0.b.p,y0.b.n,y0.b.ports,y0.b.costs,[y0.b.heard.getD 0 zH,y0.b.heard.getD 1 zH]⟩⟩,bxA n2 1,bxA n2 2,bxA n2 3,bxA n2 4]⟩:=by kernel_rfl
theorem nb_bad:okN nb=false:=by decide +kernel
theorem nl_bad:okN nl=false:=by decide +kernel
theorem known_ans:ans Try.prog pol 5 []=some (B true):=by
 have kn:ans Try.prog pol 15 [tpT true true t3,.sl true 1 [I 1,I 1,I 0,I 0,I 0]]=some (.tup [nwT fl1 n1,I 0]):=New_ok true true true t3 pr1 t3_ok (by decide +kernel)
 have kg:=GoalT_ok fl1 n1 n1_ok.z n1_ok.ok
 rw [g1_eq] at kg
 have kr:=Restore_arg fl1 n1 (-1) n1_ok.z n1_ok.ok (.inl (by decide))
 have kc:ans Try.prog pol 13 [nwT fl1 n1,I 0]=some (.tup [nwT fl1 n2,I 0]):=Cut_ok fl1 n1 n1_ok.z n1_ok.ok 0 (by decide +kernel) n1_ok.b6
 have e2:=CheckN_ans fl1 n2 n2_ok.z (by decide +kernel) (by decide +kernel)
 rw [if_pos n2_ok.ok] at e2
 have e1:=CheckN_ans fl0 nb nb_z (by decide +kernel) (by decide +kernel)
 rw [if_neg (by rw [nb_bad]; simp)] at e1
 have e3:=CheckN_ans fl0 nl nl_z (by decide +kernel) (by decide +kernel)
 rw [if_neg (by rw [nl_bad]; simp)] at e3
 rw [n2_eq] at kc e2
 rw [n1_eq] at kn kg kr kc
 exact known_walk t3 pr1 n1.down n2.down _ _ _ _ _ _ _ _ _ _ _ _ _ _ _ _ _ _
  three_ans (New_arg true true true t3 [0,0,0,0] t3_ok (by decide) (by decide +kernel)) (New_arg true true true t3 [0,0,16,0,0] t3_ok (by decide) (by decide +kernel)) (New_arg true true true t3 [0,0,-1,0,0] t3_ok (by decide) (by decide +kernel))
  kn kg kr kc e1 e2 e3
end Go.Proofs.Ytbibdnlbpjnieaa
