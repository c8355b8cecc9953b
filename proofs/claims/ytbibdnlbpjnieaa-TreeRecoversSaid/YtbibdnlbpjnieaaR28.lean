/- Part 28 of the proof of TreeRecovers. -/
import Derived.Test.YtbibdnlbpjnieaaR27
set_option linter.all false
set_option maxRecDepth 100000
set_option maxHeartbeats 4000000
namespace Go.Proofs.Ytbibdnlbpjnieaa
open Go Go.Abs
def kap (w:Nw) (n:Nat):Int:=16*prA w n+(n:Nat)
def upE (w:Nw) (i:Nat):List Ed:=if upA w i=true then [⟨(lnk w.t i).a.toNat,(lnk w.t i).b.toNat,(lnk w.t i).per⟩,⟨(lnk w.t i).b.toNat,(lnk w.t i).a.toNat,(lnk w.t i).per⟩] else []
def edW (w:Nw):List Ed:=(List.range w.t.links.length).flatMap (upE w)
theorem prA_bd {w:Nw} (hr:rankL w.t w.prios=true) (n:Nat):0≤prA w n∧prA w n≤15:=by
 simp only [rankL,Bool.and_eq_true,List.all_eq_true,decide_eq_true_eq] at hr
 unfold prA
 cases h:w.prios[n]? with
 | none=>simp
 | some x=>exact hr.2 x (List.mem_of_getElem? h)
theorem kap_inj {w:Nw} (hr:rankL w.t w.prios=true) {i j:Nat} (hi:i < 16) (hj:j < 16) (h:kap w i=kap w j):i=j:=by
 have:=prA_bd hr i
 have:=prA_bd hr j
 unfold kap at h
 omega
section
variable {w:Nw} (h:VN w)
include h
theorem ends_N {i:Nat} (hi:i < w.t.links.length):(lnk w.t i).a.toNat < w.t.nodes.toNat∧(lnk w.t i).b.toNat < w.t.nodes.toNat∧(lnk w.t i).a.toNat≠(lnk w.t i).b.toNat∧1≤(lnk w.t i).per∧(lnk w.t i).per≤1000∧(lnk w.t i).a=((lnk w.t i).a.toNat:Nat)∧(lnk w.t i).b=((lnk w.t i).b.toNat:Nat):=by
 obtain ⟨⟨h1,h2⟩,⟨h3,h4⟩,h5⟩:=ends_at h.t hi
 have hp:=per_ok h.t (p:=2*i) (by omega)
 have e1:2*i / 2=i:=by omega
 rw [perP,e1] at hp
 refine ⟨by omega,by omega,fun h=>h5 (by omega),hp.1,hp.2,by omega,by omega⟩
theorem edW_ok:∀ e∈edW w,e.a < w.t.nodes.toNat∧e.b < w.t.nodes.toNat∧e.a≠e.b∧1≤e.w:=by
 intro e he
 simp only [edW,List.mem_flatMap,List.mem_range] at he
 obtain ⟨i,hi,he⟩:=he
 obtain ⟨h1,h2,h3,h4,h5,_,_⟩:=ends_N h hi
 unfold upE at he
 split at he
 ·simp only [List.mem_cons,List.not_mem_nil,or_false] at he
  rcases he with rfl|rfl
  ·exact ⟨h1,h2,h3,h4⟩
  ·exact ⟨h2,h1,fun h=>h3 h.symm,h4⟩
 ·cases he
theorem edW_w:∀ e∈edW w,e.w≤1000:=by
 intro e he
 simp only [edW,List.mem_flatMap,List.mem_range] at he
 obtain ⟨i,hi,he⟩:=he
 obtain ⟨h1,h2,h3,h4,h5,_,_⟩:=ends_N h hi
 unfold upE at he
 split at he
 ·simp only [List.mem_cons,List.not_mem_nil,or_false] at he
  rcases he with rfl|rfl <;> exact h5
 ·cases he
omit h in
theorem edW_sym:symE (edW w):=by
 intro e he
 simp only [edW,List.mem_flatMap,List.mem_range] at he ⊢
 obtain ⟨i,hi,he⟩:=he
 refine ⟨i,hi,?_⟩
 unfold upE at he ⊢
 split at he
 ·rename_i hu
  rw [if_pos hu]
  simp only [List.mem_cons,List.not_mem_nil,or_false] at he ⊢
  rcases he with rfl|rfl
  ·right; rfl
  ·left; rfl
 ·cases he
def RelR (w:Nw) (R:List (Int × Int)) (f:Nat→Nat):Prop:=R.length=w.t.nodes.toNat∧∀ n,n < w.t.nodes.toNat→R[n]? = some (prA w (f n),((f n:Nat):Int))∧f n < w.t.nodes.toNat
omit h in
theorem minR_kap (hr:rankL w.t w.prios=true) {x y:Nat} (hx:x < 16) (hy:y < 16):minR (prA w x,((x:Nat):Int)) (prA w y,((y:Nat):Int))=if kap w y < kap w x then (prA w y,((y:Nat):Int)) else (prA w x,((x:Nat):Int)):=by
 have h1:=prA_bd hr x
 have h2:=prA_bd hr y
 have hb:∀ (a:Int) (z:Nat),0≤a∧a≤15→z < 16→Bnd (hd2 (a,((z:Nat):Int))):=fun a z ha hz=>⟨by simp only [hd2]; omega,by simp only [hd2]; omega,by simp only [hd2]; omega,by simp only [hd2]; omega,by simp only [hd2]; omega,by simp only [hd2]; omega⟩
 have h3:=lt6_num (hb (prA w y) y h2 hy) (hb (prA w x) x h1 hx)
 have h4:num (hd2 (prA w y,((y:Nat):Int))) < num (hd2 (prA w x,((x:Nat):Int)))↔kap w y < kap w x:=by
  simp only [num,hd2,kap]
  omega
 rw [minR]
 simp only [h3,h4]
theorem rtS1_rel {R:List (Int × Int)} {f:Nat→Nat} (hR:RelR w R f) {i:Nat} (hi:i < w.t.links.length) :
  RelR w (rtS1 w R i) (pull (kap w) (pull (kap w) f ⟨(lnk w.t i).a.toNat,(lnk w.t i).b.toNat,(lnk w.t i).per⟩) ⟨(lnk w.t i).b.toNat,(lnk w.t i).a.toNat,(lnk w.t i).per⟩):=by
 obtain ⟨h1,h2,h3,h4,h5,_,_⟩:=ends_N h hi
 obtain ⟨z1,z2,z3⟩:=okT_size h.t
 unfold rtS1
 generalize (lnk w.t i).a=a at *
 generalize (lnk w.t i).b=b at *
 obtain ⟨r1,r2⟩:=hR
 obtain ⟨ra1,ra2⟩:=r2 _ h1
 obtain ⟨rb1,rb2⟩:=r2 _ h2
 have ea:rA R a=(prA w (f a.toNat),((f a.toNat:Nat):Int)):=by rw [rA,ra1]; rfl
 have eb:rA R b=(prA w (f b.toNat),((f b.toNat:Nat):Int)):=by rw [rA,rb1]; rfl
 rw [ea,eb,minR_kap h.rank (by omega) (by omega)]
 generalize a.toNat=A at *
 generalize b.toNat=B at *
 have hA:pull (kap w) f ⟨A,B,(lnk w.t i).per⟩ A=if kap w (f B) < kap w (f A) then f B else f A:=by rw [pull]; exact setF_same
 have hB:pull (kap w) f ⟨A,B,(lnk w.t i).per⟩ B=f B:=by rw [pull]; exact setF_ne (fun h=>h3 h.symm)
 have hval:∀ n,pull (kap w) (pull (kap w) f ⟨A,B,(lnk w.t i).per⟩) ⟨B,A,(lnk w.t i).per⟩ n=if n=A∨n=B then (if kap w (f B) < kap w (f A) then f B else f A) else f n:=by
  intro n
  by_cases hn:n=B
  ·subst hn
   rw [if_pos (.inr rfl)]
   have:pull (kap w) (pull (kap w) f ⟨A,n,(lnk w.t i).per⟩) ⟨n,A,(lnk w.t i).per⟩ n=if kap w (pull (kap w) f ⟨A,n,(lnk w.t i).per⟩ A) < kap w (pull (kap w) f ⟨A,n,(lnk w.t i).per⟩ n) then pull (kap w) f ⟨A,n,(lnk w.t i).per⟩ A else pull (kap w) f ⟨A,n,(lnk w.t i).per⟩ n:=setF_same
   rw [this,hA,hB]
   by_cases hc:kap w (f n) < kap w (f A)
   ·rw [if_pos hc,if_neg (by omega)]
   ·rw [if_neg hc]
    by_cases hc2:kap w (f A) < kap w (f n)
    ·rw [if_pos hc2]
    ·rw [if_neg hc2]
     exact kap_inj h.rank (by omega) (by omega) (by omega)
  ·have:pull (kap w) (pull (kap w) f ⟨A,B,(lnk w.t i).per⟩) ⟨B,A,(lnk w.t i).per⟩ n=pull (kap w) f ⟨A,B,(lnk w.t i).per⟩ n:=setF_ne hn
   rw [this]
   by_cases hn2:n=A
   ·subst hn2; rw [if_pos (.inl rfl),hA]
   ·rw [if_neg (fun h=>h.elim hn2 hn)]
    exact setF_ne hn2
 have hm:(if kap w (f B) < kap w (f A) then (prA w (f B),((f B:Nat):Int)) else (prA w (f A),((f A:Nat):Int)))=(prA w (if kap w (f B) < kap w (f A) then f B else f A),(((if kap w (f B) < kap w (f A) then f B else f A):Nat):Int)):=by
  split <;> rfl
 rw [hm]
 have hlt:(if kap w (f B) < kap w (f A) then f B else f A) < w.t.nodes.toNat:=by split <;> omega
 generalize (if kap w (f B) < kap w (f A) then f B else f A)=V at *
 refine ⟨by simp [r1],fun n hn=>?_⟩
 rw [hval n]
 by_cases hn2:n=B
 ·subst hn2
  rw [if_pos (.inr rfl),List.getElem?_set_self (by simp [r1,hn])]
  exact ⟨rfl,hlt⟩
 ·rw [List.getElem?_set_ne (fun h=>hn2 h.symm)]
  by_cases hn3:n=A
  ·subst hn3
   rw [if_pos (.inl rfl),List.getElem?_set_self (by rw [r1]; exact hn)]
   exact ⟨rfl,hlt⟩
  ·rw [if_neg (fun h=>h.elim hn3 hn2),List.getElem?_set_ne (fun h=>hn3 h.symm)]
   exact r2 n hn
theorem rtRoundL_rel {R:List (Int × Int)} {f:Nat→Nat} (hR:RelR w R f):RelR w (rtRoundL w R) (rndR (kap w) (edW w) f):=by
 have key:∀ k,k≤w.t.links.length→RelR w ((List.range k).foldl (upS w (rtS1 w)) R) (rndR (kap w) ((List.range k).flatMap (upE w)) f):=by
  intro k
  induction k with
  | zero=>intro _; exact hR
  | succ k ih =>
   intro hk
   have ih:=ih (by omega)
   rw [List.range_succ,List.foldl_append,List.foldl_cons,List.foldl_nil,List.flatMap_append,rndR,List.foldl_append]
   change RelR w _ (List.foldl (pull (kap w)) (rndR (kap w) ((List.range k).flatMap (upE w)) f) _)
   generalize (List.range k).foldl (upS w (rtS1 w)) R=S at *
   generalize rndR (kap w) ((List.range k).flatMap (upE w)) f=g at *
   simp only [List.flatMap_cons,List.flatMap_nil,List.append_nil]
   unfold upS upE
   split
   ·exact rtS1_rel h ih (by omega)
   ·exact ih
 exact key _ (Nat.le_refl _)
theorem rootsL_rel:RelR w (rootsL w) (roots (kap w) (edW w) w.t.nodes.toNat):=by
 have h0:RelR w (rt0 w) id:=⟨by simp [rt0],fun n hn=>⟨by simp [rt0,hn],hn⟩⟩
 have key:∀ k,RelR w ((List.range k).foldl (fun R _=>rtRoundL w R) (rt0 w)) (iter (rndR (kap w) (edW w)) k id):=by
  intro k
  induction k with
  | zero=>exact h0
  | succ k ih=>rw [List.range_succ,List.foldl_append,List.foldl_cons,List.foldl_nil]; exact rtRoundL_rel h ih
 exact key _
def RelD (w:Nw) (D:List Int) (d:Nat→Int):Prop:=D.length=w.t.nodes.toNat∧∀ n,n < w.t.nodes.toNat→D[n]? = some (d n)
omit h in
theorem minI_min (x y:Int):minI x y=min x y:=by unfold minI; split <;> omega
theorem dsS1_rel {D:List Int} {d:Nat→Int} (hD:RelD w D d) {i:Nat} (hi:i < w.t.links.length) :
  RelD w (dsS1 w D i) (rlx (rlx d ⟨(lnk w.t i).a.toNat,(lnk w.t i).b.toNat,(lnk w.t i).per⟩) ⟨(lnk w.t i).b.toNat,(lnk w.t i).a.toNat,(lnk w.t i).per⟩):=by
 obtain ⟨h1,h2,h3,h4,h5,_,_⟩:=ends_N h hi
 obtain ⟨r1,r2⟩:=hD
 unfold dsS1
 simp only [dsB,dsA,minI_min,dA]
 rw [r2 _ h1,r2 _ h2]
 simp only [Option.getD_some]
 generalize (lnk w.t i).a.toNat=A at *
 generalize (lnk w.t i).b.toNat=B at *
 generalize (lnk w.t i).per=W at *
 have hA:rlx d ⟨A,B,W⟩ A=min (d A) (d B+W):=setF_same
 have hB:rlx d ⟨A,B,W⟩ B=d B:=setF_ne (fun h=>h3 h.symm)
 refine ⟨by simp [r1],fun n hn=>?_⟩
 by_cases hn2:n=B
 ·subst hn2
  rw [List.getElem?_set_self (by simp [r1,hn])]
  have:rlx (rlx d ⟨A,n,W⟩) ⟨n,A,W⟩ n=min (rlx d ⟨A,n,W⟩ n) (rlx d ⟨A,n,W⟩ A+W):=setF_same
  rw [this,hA,hB]
 ·rw [List.getElem?_set_ne (fun h=>hn2 h.symm)]
  have:rlx (rlx d ⟨A,B,W⟩) ⟨B,A,W⟩ n=rlx d ⟨A,B,W⟩ n:=setF_ne hn2
  rw [this]
  by_cases hn3:n=A
  ·subst hn3
   rw [List.getElem?_set_self (by rw [r1]; exact hn),hA]
  ·rw [List.getElem?_set_ne (fun h=>hn3 h.symm)]
   have:rlx d ⟨A,B,W⟩ n=d n:=setF_ne hn3
   rw [this]
   exact r2 n hn
theorem dsRoundL_rel {D:List Int} {d:Nat→Int} (hD:RelD w D d):RelD w (dsRoundL w D) (rndD (edW w) d):=by
 have key:∀ k,k≤w.t.links.length→RelD w ((List.range k).foldl (upS w (dsS1 w)) D) (rndD ((List.range k).flatMap (upE w)) d):=by
  intro k
  induction k with
  | zero=>intro _; exact hD
  | succ k ih =>
   intro hk
   have ih:=ih (by omega)
   rw [List.range_succ,List.foldl_append,List.foldl_cons,List.foldl_nil,List.flatMap_append,rndD,List.foldl_append]
   change RelD w _ (List.foldl rlx (rndD ((List.range k).flatMap (upE w)) d) _)
   generalize (List.range k).foldl (upS w (dsS1 w)) D=S at *
   generalize rndD ((List.range k).flatMap (upE w)) d=g at *
   simp only [List.flatMap_cons,List.flatMap_nil,List.append_nil]
   unfold upS upE
   split
   ·exact dsS1_rel h ih (by omega)
   ·exact ih
 exact key _ (Nat.le_refl _)
theorem distL_rel:RelD w (distL w (rootsL w)) (iter (rndD (edW w)) w.t.nodes.toNat (fun i=>if roots (kap w) (edW w) w.t.nodes.toNat i=i then 0 else 12000)):=by
 obtain ⟨r1,r2⟩:=rootsL_rel h
 obtain ⟨z1,z2,z3⟩:=okT_size h.t
 have h0:RelD w (ds0 w (rootsL w)) (fun i=>if roots (kap w) (edW w) w.t.nodes.toNat i=i then 0 else 12000):=by
  refine ⟨by simp [ds0],fun n hn=>?_⟩
  obtain ⟨e1,e2⟩:=r2 n hn
  have e3:rA (rootsL w) ((n:Nat):Int)=(prA w (roots (kap w) (edW w) w.t.nodes.toNat n),((roots (kap w) (edW w) w.t.nodes.toNat n:Nat):Int)):=by rw [rA,Int.toNat_natCast,e1]; rfl
  rw [ds0,List.getElem?_map,List.getElem?_range hn,Option.map_some,e3]
  congr 1
  show _=(if roots (kap w) (edW w) w.t.nodes.toNat n=n then (0:Int) else 12000)
  generalize roots (kap w) (edW w) w.t.nodes.toNat n=rn
  by_cases hr:rn=n
  ·subst hr; simp
  ·rw [if_neg hr,if_neg]
   intro h
   have:=congrArg Prod.snd h
   simp only at this
   omega
 have key:∀ k,RelD w ((List.range k).foldl (fun D _=>dsRoundL w D) (ds0 w (rootsL w))) (iter (rndD (edW w)) k (fun i=>if roots (kap w) (edW w) w.t.nodes.toNat i=i then 0 else 12000)):=by
  intro k
  induction k with
  | zero=>exact h0
  | succ k ih=>rw [List.range_succ,List.foldl_append,List.foldl_cons,List.foldl_nil]; exact dsRoundL_rel h ih
 exact key _
theorem net_dst:Dst (kap w) (edW w) w.t.nodes.toNat (roots (kap w) (edW w) w.t.nodes.toNat) (iter (rndD (edW w)) w.t.nodes.toNat (fun i=>if roots (kap w) (edW w) w.t.nodes.toNat i=i then 0 else 12000)) ∧
  ∀ i,i < w.t.nodes.toNat→iter (rndD (edW w)) w.t.nodes.toNat (fun i=>if roots (kap w) (edW w) w.t.nodes.toNat i=i then 0 else 12000) i≤1000*((w.t.nodes.toNat:Int) - 1):=by
 obtain ⟨z1,z2,z3⟩:=okT_size h.t
 exact dst_ok (W:=1000) (edW_ok h) (edW_w h) (by omega) (by omega) (by omega) edW_sym (fun i j hi hj hk=>kap_inj h.rank (by omega) (by omega) hk)
end
end Go.Proofs.Ytbibdnlbpjnieaa
namespace Go.Proofs.Ytbibdnlbpjnieaa
open Go Go.Abs
def upP (w:Nw) (p:Nat):Prop:=trP w.t p∧dnA w (p / 2)=false
theorem upP_bk {w:Nw} {p:Nat} (h:upP w p):upP w (bk p):=⟨trP_bk h.1,by rw [bk_half]; exact h.2⟩
def rootF (w:Nw) (n:Nat):Nat:=roots (kap w) (edW w) w.t.nodes.toNat n
def distF (w:Nw) (n:Nat):Int:=iter (rndD (edW w)) w.t.nodes.toNat (fun i=>if roots (kap w) (edW w) w.t.nodes.toNat i=i then 0 else 12000) n
theorem ed_of {w:Nw} {p:Nat} (h:upP w p):(⟨(frP w.t p).toNat,(toP w.t p).toNat,perP w.t p⟩:Ed)∈edW w:=by
 obtain ⟨⟨h1,h2,h3⟩,h4⟩:=h
 simp only [edW,List.mem_flatMap,List.mem_range]
 refine ⟨p / 2,by omega,?_⟩
 have hu:upA w (p / 2)=true:=by
  unfold frP at h2
  unfold toP at h3
  unfold upA
  by_cases hp:p % 2=0
  ·rw [if_pos hp] at h2 h3; rw [h4,h2,h3]; rfl
  ·rw [if_neg hp] at h2 h3; rw [h4,h2,h3]; rfl
 rw [upE,if_pos hu]
 unfold frP toP perP
 by_cases hp:p % 2=0
 ·rw [if_pos hp,if_pos hp]; simp
 ·rw [if_neg hp,if_neg hp]; simp
theorem ed_to {w:Nw} {e:Ed} (h:e∈edW w):∃ p,upP w p∧(frP w.t p).toNat=e.a∧(toP w.t p).toNat=e.b∧perP w.t p=e.w:=by
 simp only [edW,List.mem_flatMap,List.mem_range] at h
 obtain ⟨i,hi,he⟩:=h
 unfold upE at he
 split at he
 ·rename_i hu
  simp only [upA,Bool.and_eq_true,Bool.not_eq_true'] at hu
  obtain ⟨u1,u2,u3⟩:=hu
  have e1:2*i / 2=i:=by omega
  have e2:(2*i+1) / 2=i:=by omega
  have e3:2*i % 2=0:=by omega
  have e4:¬ (2*i+1) % 2=0:=by omega
  have f1:frP w.t (2*i)=(lnk w.t i).a:=by rw [frP,if_pos e3,e1]
  have f2:toP w.t (2*i)=(lnk w.t i).b:=by rw [toP,if_pos e3,e1]
  have f3:frP w.t (2*i+1)=(lnk w.t i).b:=by rw [frP,if_neg e4,e2]
  have f4:toP w.t (2*i+1)=(lnk w.t i).a:=by rw [toP,if_neg e4,e2]
  have g1:perP w.t (2*i)=(lnk w.t i).per:=by rw [perP,e1]
  have g2:perP w.t (2*i+1)=(lnk w.t i).per:=by rw [perP,e2]
  simp only [List.mem_cons,List.not_mem_nil,or_false] at he
  rcases he with rfl|rfl
  ·exact ⟨2*i,⟨⟨by omega,by rw [f1]; exact u2,by rw [f2]; exact u3⟩,by rw [e1]; exact u1⟩,by rw [f1],by rw [f2],g1⟩
  ·exact ⟨2*i+1,⟨⟨by omega,by rw [f3]; exact u3,by rw [f4]; exact u2⟩,by rw [e2]; exact u1⟩,by rw [f3],by rw [f4],g2⟩
 ·cases he
theorem lt6_lx3 {c d e f g c' d' e' f' g':Int} (he:0≤e∧e < 16) (he':0≤e'∧e' < 16) :
  lt6 ⟨true,0,0,c,d,e,f,g⟩ ⟨true,0,0,c',d',e',f',g'⟩ < 0↔lx3 c (16*d+e) f c' (16*d'+e') f':=by
 simp only [lt6,lex1,lex0,and_false,or_false,lx3,Int.lt_irrefl,true_and,false_or]
 constructor
 ·rintro (h|⟨h1,h|⟨h2,h|⟨h3,h4⟩⟩⟩) <;> omega
 ·rintro (h|⟨h1,h|⟨h2,h3⟩⟩) <;> omega
theorem gl_spec {w:Nw} {D:List Int} {κ:Nat→Int} (P:Nat→Nat→Prop) (hP:∀ p q,lt6 (offG w D p (perP w.t p)) (offG w D q (perP w.t q)) < 0↔P p q) (htr:∀ p q r,¬ P p q→¬ P q r→¬ P p r) (hir:∀ p,¬ P p p) (has:∀ p q,P p q→¬ P q p) :
  ∀ (l:List Nat),((l.foldl (glS w D) (-1,zH)=(-1,zH))∧∀ p∈l,glC w p)∨∃ p∈l,¬ glC w p∧l.foldl (glS w D) (-1,zH)=((p:Int),offG w D p (perP w.t p))∧∀ q∈l,¬ glC w q→¬ P q p:=by
 intro l
 suffices hrev:∀ l:List Nat,((l.reverse.foldl (glS w D) (-1,zH)=(-1,zH))∧∀ p∈l.reverse,glC w p)∨∃ p∈l.reverse,¬ glC w p∧l.reverse.foldl (glS w D) (-1,zH)=((p:Int),offG w D p (perP w.t p))∧∀ q∈l.reverse,¬ glC w q→¬ P q p by
  have:=hrev l.reverse
  rwa [List.reverse_reverse] at this
 intro l
 induction l with
 | nil=>left; exact ⟨rfl,fun p hp=>(by cases hp)⟩
 | cons x l ih =>
  rw [List.reverse_cons,List.foldl_append,List.foldl_cons,List.foldl_nil]
  by_cases hx:glC w x
  ·have e:∀ s,glS w D s x=s:=fun s=>by rw [glS,if_pos hx]
   rw [e]
   rcases ih with ⟨h1,h2⟩|⟨p,h1,h2,h3,h4⟩
   ·left
    refine ⟨h1,fun p hp=>?_⟩
    rw [List.mem_append] at hp
    rcases hp with hp|hp
    ·exact h2 p hp
    ·rw [List.mem_singleton] at hp; rw [hp]; exact hx
   ·right
    refine ⟨p,by simp at h1 ⊢; exact .inl h1,h2,h3,fun q hq hc=>?_⟩
    rw [List.mem_append] at hq
    rcases hq with hq|hq
    ·exact h4 q hq hc
    ·rw [List.mem_singleton] at hq; rw [hq] at hc; exact absurd hx hc
  ·right
   rcases ih with ⟨h1,h2⟩|⟨p,h1,h2,h3,h4⟩
   ·refine ⟨x,by simp,hx,?_,fun q hq hc=>?_⟩
    ·rw [h1,glS,if_neg hx,if_pos (.inl (by decide))]
    ·rw [List.mem_append] at hq
     rcases hq with hq|hq
     ·exact absurd (h2 q hq) hc
     ·rw [List.mem_singleton] at hq; rw [hq]; exact hir x
   ·by_cases hlt:P x p
    ·refine ⟨x,by simp,hx,?_,fun q hq hc=>?_⟩
     ·rw [h3,glS,if_neg hx,if_pos (.inr ((hP x p).2 hlt))]
     ·rw [List.mem_append] at hq
      rcases hq with hq|hq
      ·exact htr q p x (h4 q hq hc) (has x p hlt)
      ·rw [List.mem_singleton] at hq; rw [hq]; exact hir x
    ·refine ⟨p,by simp at h1 ⊢; exact .inl h1,h2,?_,fun q hq hc=>?_⟩
     ·rw [h3,glS,if_neg hx,if_neg]
      rintro (h|h)
      ·simp only at h; omega
      ·exact hlt ((hP x p).1 h)
     ·rw [List.mem_append] at hq
      rcases hq with hq|hq
      ·exact h4 q hq hc
      ·rw [List.mem_singleton] at hq; rw [hq]; exact hlt
section
variable {w:Nw} (h:VN w)
include h
theorem rootsA (n:Nat) (hn:n < w.t.nodes.toNat):rA (rootsL w) (n:Nat)=(prA w (rootF w n),((rootF w n:Nat):Int)):=by
 obtain ⟨e1,e2⟩:=(rootsL_rel h).2 n hn
 rw [rA,Int.toNat_natCast,e1]; rfl
theorem distA (n:Nat) (hn:n < w.t.nodes.toNat):dA (distL w (rootsL w)) (n:Nat)=distF w n:=by
 have e:=(distL_rel h).2 n hn
 rw [dA,Int.toNat_natCast,e]; rfl
theorem fr_N {p:Nat} (hp:trP w.t p):(frP w.t p).toNat < w.t.nodes.toNat∧frP w.t p=((frP w.t p).toNat:Nat):=by
 obtain ⟨h1,h2⟩:=frP_node h.t hp.1
 omega
theorem to_N {p:Nat} (hp:trP w.t p):(toP w.t p).toNat < w.t.nodes.toNat∧toP w.t p=((toP w.t p).toNat:Nat):=by
 obtain ⟨h1,h2⟩:=toP_node h.t hp.1
 omega
theorem best_spec {n:Nat} (hn:n < w.t.nodes.toNat) (hst:stA w.t n=false) (hr:rootF w n≠n) :
  ∃ b,bestN w (rootsL w) (distL w (rootsL w)) n=(b:Nat)∧upP w b∧frP w.t b=(n:Nat)∧distF w n=distF w (toP w.t b).toNat+perP w.t b ∧
   ∀ q,upP w q→frP w.t q=(n:Nat)→q≠b→lx3 (distF w (toP w.t b).toNat+perP w.t b) (kap w (toP w.t b).toNat) (bk b:Nat) (distF w (toP w.t q).toNat+perP w.t q) (kap w (toP w.t q).toNat) (bk q:Nat):=by
 obtain ⟨z1,z2,z3⟩:=okT_size h.t
 have hdst:=(net_dst h).1
 have hra:=rootsA h n hn
 have hne:¬ rA (rootsL w) (n:Nat)=(prA w n,((n:Nat):Int)):=by
  rw [hra]
  intro he
  have:=congrArg Prod.snd he
  simp only at this
  exact hr (by omega)
 obtain ⟨e,he,ea,ed⟩:=hdst.par n hn hr
 obtain ⟨p0,hp0,f1,f2,f3⟩:=ed_to he
 rw [ea] at f1
 have hf0:=(fr_N h hp0.1).2
 rw [f1] at hf0
 -- all ports of the list are within range,so that the order is that of the numbers
 have hto:∀ p,p < 2*w.t.links.length→0≤toP w.t p∧toP w.t p < 16:=fun p hp=>by
  obtain ⟨h1,h2⟩:=toP_node h.t hp
  omega
 let P:Nat→Nat→Prop:=fun p q=>lt6 (offG w (distL w (rootsL w)) p (perP w.t p)) (offG w (distL w (rootsL w)) q (perP w.t q)) < 0
 have hbn:bestN w (rootsL w) (distL w (rootsL w)) n=((portsL w.t n).foldl (glS w (distL w (rootsL w))) (-1,zH)).1:=by rw [bestN,if_neg hne]
 have lst:∀ x y:Hd,lt6 x y < 0↔(x.a < y.a∨x.a=y.a∧(x.b < y.b∨x.b=y.b∧(x.c < y.c∨x.c=y.c∧(x.d < y.d∨x.d=y.d∧(x.e < y.e∨x.e=y.e∧x.f < y.f))))):=fun x y=>by
  simp only [lt6,lex1,lex0,and_false,or_false]
 have hsp:=gl_spec (w:=w) (D:=distL w (rootsL w)) (κ:=kap w) P (fun p q=>Iff.rfl)
  (fun p q r h1 h2=>by simp only [P,lst] at *; omega) (fun p=>by simp only [P,lst]; omega) (fun p q h1=>by simp only [P,lst] at *; omega) (portsL w.t n)
 have hmem:∀ q,upP w q→frP w.t q=(n:Nat)→q∈portsL w.t n:=fun q hq hf=>by
  simp only [portsL,List.mem_filter,List.mem_range,decide_eq_true_eq]
  exact ⟨hq.1.1,hf⟩
 have hgl:∀ q,upP w q→¬ glC w q:=fun q hq hc=>by
  rcases hc with hc|hc
  ·rw [hq.2] at hc; cases hc
  ·rw [hq.1.2.2] at hc; cases hc
 have hdA:∀ p,p < 2*w.t.links.length→dA (distL w (rootsL w)) (toP w.t p)=distF w (toP w.t p).toNat:=fun p hp=>by
  obtain ⟨h1,h2⟩:=toP_node h.t hp
  have:=distA h (toP w.t p).toNat (by omega)
  rwa [show (((toP w.t p).toNat:Nat):Int)=toP w.t p by omega] at this
 rcases hsp with ⟨_,h2⟩|⟨b,h1,h2,h3,h4⟩
 ·exact absurd (h2 p0 (hmem p0 hp0 hf0)) (hgl p0 hp0)
 ·simp only [portsL,List.mem_filter,List.mem_range,decide_eq_true_eq] at h1
  have hb:upP w b:=by
   refine ⟨⟨h1.1,by rw [h1.2,Int.toNat_natCast]; exact hst,?_⟩,?_⟩
   ·cases hs:stA w.t (toP w.t b).toNat with
    | false=>rfl
    | true=>exact absurd (.inr hs) h2
   ·cases hs:dnA w (b / 2) with
    | false=>rfl
    | true=>exact absurd (.inl hs) h2
  have hcmp:∀ q,upP w q→frP w.t q=(n:Nat)→¬ lx3 (distF w (toP w.t q).toNat+perP w.t q) (kap w (toP w.t q).toNat) (bk q:Nat) (distF w (toP w.t b).toNat+perP w.t b) (kap w (toP w.t b).toNat) (bk b:Nat):=by
   intro q hq hf
   have h5:=h4 q (hmem q hq hf) (hgl q hq)
   simp only [P] at h5
   have e1:=hto q hq.1.1
   have e2:=hto b hb.1.1
   rw [offG,offG,lt6_lx3 e1 e2,hdA q hq.1.1,hdA b hb.1.1] at h5
   unfold kap
   rwa [show (((toP w.t q).toNat:Nat):Int)=toP w.t q by omega,show (((toP w.t b).toNat:Nat):Int)=toP w.t b by omega]
  refine ⟨b,by rw [hbn,h3],hb,h1.2,?_,?_⟩
  ·have h5:=hcmp p0 hp0 hf0
   have h6:=hdst.edge _ (ed_of hb)
   simp only at h6
   rw [h1.2,Int.toNat_natCast] at h6
   rw [f2,f3] at h5
   change distF w n≤distF w (toP w.t b).toNat+perP w.t b at h6
   change distF w n=distF w e.b+e.w at ed
   unfold lx3 at h5
   omega
  ·intro q hq hf hqb
   have h5:=hcmp q hq hf
   have hbk:bk q≠bk b:=fun h=>hqb (by rw [← bk_bk q,h,bk_bk])
   unfold lx3 at h5 ⊢
   omega
def netX (w:Nw):Net:=⟨w.t.nodes.toNat,upP w,fun p=>(frP w.t p).toNat,fun p=>(toP w.t p).toNat,bk,perP w.t,kap w,rootF w,distF w,fun n=>(bestN w (rootsL w) (distL w (rootsL w)) n).toNat⟩
omit h in
theorem bestN_of {n b:Nat} (he:bestN w (rootsL w) (distL w (rootsL w)) n=(b:Nat)):(netX w).bst n=b:=by
 show (bestN w (rootsL w) (distL w (rootsL w)) n).toNat=b
 rw [he]; simp
theorem root_st {n:Nat} (hn:n < w.t.nodes.toNat) (hr:rootF w n≠n):stA w.t n=false:=by
 obtain ⟨e,he,ea,ed⟩:=(net_dst h).1.par n hn hr
 obtain ⟨p0,hp0,f1,f2,f3⟩:=ed_to he
 rw [← ea,← f1]
 exact hp0.1.2.1
theorem netX_ok:NetOk (netX w):=by
 obtain ⟨z1,z2,z3⟩:=okT_size h.t
 obtain ⟨hd,hbd⟩:=net_dst h
 have hinj:∀ i j,i < w.t.nodes.toNat→j < w.t.nodes.toNat→kap w i=kap w j→i=j:=fun i j hi hj hk=>kap_inj h.rank (by omega) (by omega) hk
 refine ⟨fun q hq=>(fr_N h hq.1).1,fun q hq=>(to_N h hq.1).1,fun q hq=>⟨upP_bk hq,?_,?_,bk_bk q,?_⟩,fun q hq=>(per_ok h.t hq.1.1).1,fun q hq=>?_,hinj,fun q hq=>?_,fun i hi=>⟨?_,?_⟩,fun q hq=>?_,fun i hi hr=>?_,fun i hi=>?_,fun i hi=>?_,?_,fun i hi hr=>?_⟩
 ·show (frP w.t (bk q)).toNat=(toP w.t q).toNat
  rw [bk_fr]
 ·show (toP w.t (bk q)).toNat=(frP w.t q).toNat
  rw [bk_to]
 ·show perP w.t (bk q)=perP w.t q
  rw [perP,perP,bk_half]
 ·exact (edW_ok h _ (ed_of hq)).2.2.1
 ·exact roots_same (κ:=kap w) (N:=w.t.nodes.toNat) (fun e he=>⟨(edW_ok h e he).1,(edW_ok h e he).2.1⟩) edW_sym hinj _ (ed_of hq)
 ·exact roots_le i
 ·exact (roots_cn (κ:=kap w) (E:=edW w) (N:=w.t.nodes.toNat) i).lt (fun e he=>⟨(edW_ok h e he).1,(edW_ok h e he).2.1⟩) hi
 ·exact hd.edge _ (ed_of hq)
 ·exact hd.top i hi hr
 ·exact hd.nn i hi
 ·have:=hbd i hi
  show distF w i≤1048576
  change distF w i≤_ at this
  omega
 ·show w.t.nodes.toNat≤12
  omega
 ·obtain ⟨b,b1,b2,b3,b4,b5⟩:=best_spec h hi (root_st h hi hr) hr
  rw [bestN_of b1]
  refine ⟨b2,?_,b4,fun q hq hf hne=>b5 q hq ?_ hne⟩
  ·show (frP w.t b).toNat=i
   rw [b3]; simp
  ·have:=(fr_N h hq.1).2
   have hf':(frP w.t q).toNat=i:=hf
   rw [hf'] at this; exact this
theorem goal_eq {p n:Nat} (hp:upP w p) (hf:frP w.t p=(n:Nat)):goalW w n p=goalM (netX w) p:=by
 obtain ⟨z1,z2,z3⟩:=okT_size h.t
 obtain ⟨t1,t2⟩:=to_N h hp.1
 have hfN:=(fr_N h hp.1).1
 have hn:(frP w.t p).toNat=n:=by rw [hf]; simp
 rw [hn] at hfN
 have hst:stA w.t n=false:=by rw [← hn]; exact hp.1.2.1
 have hbl:=h.bl
 have hbest:dA (bestL w (rootsL w) (distL w (rootsL w))) (n:Nat)=bestN w (rootsL w) (distL w (rootsL w)) n:=by
  rw [dA,Int.toNat_natCast,bestL,List.getElem?_map,List.getElem?_range (by omega),Option.map_some,bestAt,if_neg (by rw [hst]; simp)]; rfl
 have hda:=distA h n hfN
 have hdb:=distA h (toP w.t p).toNat t1
 rw [← t2] at hdb
 have hc1:((p:Int)=dA (bestL w (rootsL w) (distL w (rootsL w))) (n:Nat))↔(rootF w n≠n∧p=(netX w).bst n):=by
  rw [hbest]
  by_cases hr:rootF w n=n
  ·have:bestN w (rootsL w) (distL w (rootsL w)) n = -1:=by rw [bestN,if_pos]; rw [rootsA h n hfN,hr]
   rw [this]
   exact ⟨fun h=>by omega,fun h=>absurd hr h.1⟩
  ·obtain ⟨b,b1,_⟩:=best_spec h hfN hst hr
   rw [bestN_of b1,b1]
   exact ⟨fun h=>⟨hr,by omega⟩,fun h=>by rw [h.2]⟩
 have hc2:lt6 (ownG w (distL w (rootsL w)) n p) (offG w (distL w (rootsL w)) p 0) < 0↔lx3 (distF w n) (kap w n) (p:Nat) (distF w (toP w.t p).toNat) (kap w (toP w.t p).toNat) (bk p:Nat):=by
  rw [ownG,offG,lt6_lx3 (by omega) (by omega),hda,hdb,Int.add_zero]
  unfold kap
  rw [← t2]
 have e:goalM (netX w) p=if rootF w n≠n∧p=(netX w).bst n then 1 else if lx3 (distF w n) (kap w n) (p:Nat) (distF w (toP w.t p).toNat) (kap w (toP w.t p).toNat) (bk p:Nat) then 2 else 3:=by
  show (if rootF w (frP w.t p).toNat≠(frP w.t p).toNat∧p=(netX w).bst (frP w.t p).toNat then (1:Int) else if lx3 (distF w (frP w.t p).toNat) (kap w (frP w.t p).toNat) (p:Nat) (distF w (toP w.t p).toNat) (kap w (toP w.t p).toNat) (bk p:Nat) then 2 else 3)=_
  rw [hn]
 rw [e,goalW,goalG]
 simp only [hc1,hc2]
end
end Go.Proofs.Ytbibdnlbpjnieaa
namespace Go.Proofs.Ytbibdnlbpjnieaa
open Go Go.Abs
def msgH (h:Hd):Msg:=⟨16*h.a+h.b,h.c,16*h.d+h.e,h.f,h.g⟩
def hM (h:Hd):Option Msg:=if h.is=true then some (msgH h) else none
def topM (t:Tpo) (n:Nat) (b:Br):Top:=⟨16*(opF b).t.rp+(opF b).t.rn,(opF b).t.cost,if (opF b).t.via < 0 then none else (trunkL t (n:Nat))[(opF b).t.via.toNat]?,(opF b).t.age⟩
def Sml (h:Hd):Prop:=(0≤h.b∧h.b < 16)∧(0≤h.e∧h.e < 16)
theorem sml_hello {h:Hd} (k:helloP h):Sml h:=by
 have:=bnd_hello k
 exact ⟨this.b,this.e⟩
theorem lt6_or (x y:Hd):lt6 x y < 0↔(x.a < y.a∨x.a=y.a∧(x.b < y.b∨x.b=y.b∧(x.c < y.c∨x.c=y.c∧(x.d < y.d∨x.d=y.d∧(x.e < y.e∨x.e=y.e∧x.f < y.f))))):=by
 simp only [lt6,lex1,lex0,and_false,or_false]
theorem lt6_mlt {x y:Hd} (hx:Sml x) (hy:Sml y):lt6 x y < 0↔mlt (msgH x) (msgH y):=by
 rw [lt6_or]
 obtain ⟨h1,h2⟩:=hx
 obtain ⟨h3,h4⟩:=hy
 simp only [mlt,msgH]
 constructor
 ·rintro (h|⟨h1,h|⟨h2,h|⟨h3,h|⟨h5,h|⟨h6,h7⟩⟩⟩⟩⟩) <;> omega
 ·rintro (h|⟨h1,h|⟨h2,h|⟨h3,h4⟩⟩⟩) <;> omega
theorem lt6_le (x y:Hd):lt6 x y≤0↔¬ lt6 y x < 0:=by
 have hs:lt6 y x = - lt6 x y:=cmpL_neg _ _
 rw [hs]
 omega
theorem hM_tick (h:Hd):hM (tickH h)=tickM (hM h):=by
 unfold tickH
 by_cases hi:h.is=true
 ·rw [if_neg (by rw [hi]; simp)]
  have e1:hM h=some (msgH h):=if_pos hi
  rw [e1]
  by_cases hg:20 < h.g+1
  ·have e2:tickM (some (msgH h))=none:=if_pos hg
   rw [if_pos hg,e2]; rfl
  ·have e2:tickM (some (msgH h))=some ⟨16*h.a+h.b,h.c,16*h.d+h.e,h.f,h.g+1⟩:=if_neg hg
   rw [if_neg hg,e2]
   exact if_pos hi
 ·have hi':h.is=false:=by simpa using hi
  have e1:hM h=none:=if_neg hi
  rw [if_pos hi',e1]; rfl
theorem hM_rcv {o h:Hd} (ho:okH o) (hh:helloP h) (hi:h.is=true):hM (rcvH o h)=rcvM (hM o) (hM h):=by
 have hM1:hM h=some (msgH h):=if_pos hi
 have hA:hM (heardAs h)=some (msgH h):=rfl
 rw [hM1]
 by_cases oi:o.is=true
 ·have hM2:hM o=some (msgH o):=if_pos oi
  have so:=sml_hello (ho.1 oi)
  have sh:=sml_hello hh
  rw [hM2]
  simp only [rcvM]
  have hc:(o.is=false∨((o.d=h.d∧o.e=h.e)∧o.f=h.f)∨lt6 h o≤0)↔(((msgH o).s=(msgH h).s∧(msgH o).p=(msgH h).p)∨¬ mlt (msgH o) (msgH h)):=by
   rw [lt6_le,lt6_mlt so sh,oi]
   have:((o.d=h.d∧o.e=h.e)∧o.f=h.f)↔((msgH o).s=(msgH h).s∧(msgH o).p=(msgH h).p):=by
    obtain ⟨_,h2⟩:=so
    obtain ⟨_,h4⟩:=sh
    simp only [msgH]
    constructor
    ·rintro ⟨⟨a,b⟩,c⟩; exact ⟨by omega,c⟩
    ·rintro ⟨a,c⟩; exact ⟨⟨by omega,by omega⟩,c⟩
   rw [this]
   simp
  unfold rcvH
  simp only [hc]
  split
  ·exact hA
  ·exact hM2
 ·have hM2:hM o=none:=if_neg oi
  rw [hM2,rcvH,if_pos (.inl (by simpa using oi)),hA]
  rfl
section
variable {w:Nw} (h:VN w)
include h
theorem port_at {p:Nat} (hp:trP w.t p):∃ n x,frP w.t p=((n:Nat):Int)∧n < w.bs.length∧w.bs[n]? = some x∧bsA w.bs n=x.b∧VB w n x.b∧x.b.heard.length=(trunkL w.t (n:Nat)).length∧ixP w.t p < x.b.heard.length∧hAt w.t w.bs p=hrd x.b (ixP w.t p)∧prt x.b (ixP w.t p)=(p:Nat)∧cst x.b (ixP w.t p)=perP w.t p∧(trunkL w.t (n:Nat))[ixP w.t p]? = some p:=by
 obtain ⟨n,x,h1,h2,h3,h4,h5,h6,h7,h8⟩:=vBs_at h.t h.bl h.vb hp
 have hix:=(ixP_spec (trP_mem hp)).2.1
 rw [h1] at hix
 refine ⟨n,x,h1,h2,h3,h4,h6,h7,h8,by rw [hAt,h1,Int.toNat_natCast,h4],?_,?_,hix⟩
 ·rw [prt,h6.ports,List.getElem?_map,hix]; rfl
 ·rw [cst,h6.costs,costL,List.getElem?_map,hix]; rfl
theorem hAt_ok {p:Nat} (hp:trP w.t p):okH (hAt w.t w.bs p):=by
 obtain ⟨n,x,h1,h2,h3,h4,h5,h6,h7,h8,_⟩:=port_at h hp
 rw [h8]; exact hrd_ok h5.ok _
theorem hAt_up {p:Nat} (hp:trP w.t p) (hi:(hAt w.t w.bs p).is=true):upP w p:=by
 refine ⟨hp,?_⟩
 cases hd:dnA w (p / 2) with
 | false=>rfl
 | true=>rw [h.qt p hp hd] at hi; cases hi
theorem top_via {n:Nat} {x:Bx} (hx:w.bs[n]? = some x) (hs:stA w.t n=false) {p:Nat} (hp:trP w.t p) (hf:frP w.t p=(n:Nat)):(topM w.t n x.b).via=some p↔((ixP w.t p:Nat):Int)=(opF x.b).t.via:=by
 obtain ⟨n',x',h1,h2,h3,h4,h5,h6,h7,h8,h9,h10,h11⟩:=port_at h hp
 rw [hf] at h1
 obtain rfl:n=n':=by omega
 simp only [topM]
 constructor
 ·intro e
  split at e
  ·cases e
  ·have:=ixP_at e
   omega
 ·intro e
  rw [if_neg (by omega),← e,Int.toNat_natCast]
  exact h11
theorem top_ok {n:Nat} {x:Bx} (hx:w.bs[n]? = some x) (hs:stA w.t n=false):TopOk (netX w) (fun q=>hM (hAt w.t w.bs q)) n (topM w.t n x.b):=by
 obtain ⟨hz,hv⟩:=h.vb.2 n x hx hs
 have hl:=okB_len hv.ok
 simp only [okL] at hl
 have hnl:n < w.bs.length:=(List.getElem?_eq_some_iff.1 hx).1
 have hpl:x.b.ports.length=(trunkL w.t (n:Nat)).length:=by rw [hv.ports]; simp
 -- the ports of the bridge
 have hport:∀ q,trP w.t q→(frP w.t q).toNat=n→frP w.t q=(n:Nat):=fun q hq hf=>by
  have:=(fr_N h hq).2
  rw [hf] at this; exact this
 have hat:∀ q,trP w.t q→frP w.t q=(n:Nat)→hAt w.t w.bs q=hrd x.b (ixP w.t q)∧cst x.b (ixP w.t q)=perP w.t q∧ixP w.t q < x.b.heard.length:=fun q hq hf=>by
  obtain ⟨n',x',h1,h2,h3,h4,h5,h6,h7,h8,h9,h10,h11⟩:=port_at h hq
  rw [hf] at h1
  obtain rfl:n=n':=by omega
  rw [hx] at h3
  obtain rfl:=Option.some.inj h3
  exact ⟨h8,h10,h7⟩
 have hp15:=prA_bd h.rank n
 have hlead:∀ q m,upP w q→frP w.t q=(n:Nat)→(leadsM (netX w) (fun q=>hM (hAt w.t w.bs q)) q m↔leads x.b (ixP w.t q)=true∧m=msgH (hrd x.b (ixP w.t q))):=by
  intro q m hq hf
  obtain ⟨a1,a2,a3⟩:=hat q hq.1 hf
  have hok:=hAt_ok h hq.1
  rw [a1] at hok
  have hk:kap w n=16*x.b.p+x.b.n:=by rw [kap,hv.ip,hv.id]
  have hbid:=bid_of hv.ok
  simp only [leadsM]
  show (hM (hAt w.t w.bs q)=some m∧m.c+perP w.t q≤1048576∧m.r < kap w (frP w.t q).toNat)↔_
  rw [hf,Int.toNat_natCast,hk,a1]
  simp only [leads,ofr,a2,Bool.and_eq_true,Bool.not_eq_true',decide_eq_true_eq,decide_eq_false_iff_not]
  constructor
  ·rintro ⟨e1,e2,e3⟩
   unfold hM at e1
   split at e1
   ·rename_i hi
    obtain rfl:=Option.some.inj e1
    have hs:=(sml_hello (hok.1 hi)).1
    simp only [msgH] at e2 e3
    refine ⟨⟨⟨hi,by omega⟩,?_⟩,rfl⟩
    unfold lt2
    have:=hbid.2
    omega
   ·cases e1
  ·rintro ⟨⟨⟨hi,e2⟩,e3⟩,rfl⟩
   have hs:=(sml_hello (hok.1 hi)).1
   refine ⟨by rw [hM,if_pos hi],?_,?_⟩
   ·simp only [msgH]; omega
   ·simp only [msgH]
    unfold lt2 at e3
    have:=hbid.2
    omega
 rcases opF_spec x.b with ⟨e1,e2⟩|⟨i,e1,e2,e3,e4⟩
 ·left
  refine ⟨?_,fun q m hq hf hld=>?_⟩
  ·show topM w.t n x.b=⟨kap w n,0,none,0⟩
   have hneg:(opF x.b).t.via < 0:=by rw [e1]; simp [tp0]
   rw [topM,if_pos hneg,e1]
   simp only [tp0]
   rw [kap,hv.ip,hv.id]
  ·have hf':=hport q hq.1 hf
   have:=((hlead q m hq hf').1 hld).1
   rw [e2 _ (hat q hq.1 hf').2.2] at this
   cases this
 ·right
  have hit:i < (trunkL w.t (n:Nat)).length:=by omega
  have hget:(trunkL w.t (n:Nat))[i]? = some (trunkL w.t (n:Nat))[i]:=by simp [hit]
  generalize (trunkL w.t (n:Nat))[i]=q at hget
  have hm:=List.mem_of_getElem? hget
  have htr:=trP_of hs hm
  have hf:=(mem_trunk.1 hm).2.1
  have hqi:=ixP_at hget
  obtain ⟨a1,a2,a3⟩:=hat q htr hf
  rw [hqi] at a1 a2
  have hi:(hrd x.b i).is=true:=by
   simp only [leads,Bool.and_eq_true] at e2
   exact e2.1.1
  have hup:=hAt_up h htr (by rw [a1]; exact hi)
  refine ⟨q,msgH (hrd x.b i),hup,?_,(hlead q _ hup hf).2 ⟨by rw [hqi]; exact e2,by rw [hqi]⟩,?_,fun q' m' hq' hf' hld'=>?_⟩
  ·show (frP w.t q).toNat=n
   rw [hf]; simp
  ·rw [topM,e3]
   simp only [ofr]
   rw [if_neg (by omega),Int.toNat_natCast,hget,a2]
   rfl
  ·have hf'':=hport q' hq'.1 hf'
   obtain ⟨b1,b2,b3⟩:=hat q' hq'.1 hf''
   obtain ⟨l1,rfl⟩:=(hlead q' m' hq' hf'').1 hld'
   have e5:=e4 _ b3 l1
   have hi':(hrd x.b (ixP w.t q')).is=true:=by
    simp only [leads,Bool.and_eq_true] at l1
    exact l1.1.1
   have s1:=sml_hello ((hrd_ok hv.ok i).1 hi)
   have s2:=sml_hello ((hrd_ok hv.ok (ixP w.t q')).1 hi')
   have s1':Sml (ofr x.b i):=s1
   have s2':Sml (ofr x.b (ixP w.t q')):=s2
   rw [lt6_mlt s2' s1'] at e5
   have f1:offM (netX w) q' (msgH (hrd x.b (ixP w.t q')))=msgH (ofr x.b (ixP w.t q')):=by
    simp only [offM,msgH,ofr,b2]; rfl
   have f2:offM (netX w) q (msgH (hrd x.b i))=msgH (ofr x.b i):=by
    simp only [offM,msgH,ofr,a2]; rfl
   rw [f1,f2]
   exact e5
theorem role_eq {p n:Nat} {x:Bx} (hp:trP w.t p) (hf:frP w.t p=(n:Nat)) (hx:w.bs[n]? = some x) :
  roleF x.b (opF x.b).t (ixP w.t p)=roleM (hM (hAt w.t w.bs p)) (topM w.t n x.b) (kap w n) p∧hM (sntP w.t w.bs p)=sentM (hM (hAt w.t w.bs p)) (topM w.t n x.b) (kap w n) p:=by
 obtain ⟨n',x',h1,h2,h3,h4,h5,h6,h7,h8,h9,h10,h11⟩:=port_at h hp
 rw [hf] at h1
 obtain rfl:n=n':=by omega
 rw [hx] at h3
 obtain rfl:=Option.some.inj h3
 have hst:stA w.t n=false:=by have:=hp.2.1; rwa [hf,Int.toNat_natCast] at this
 have hvia:=top_via h hx hst hp hf
 have hk:kap w n=16*x.b.p+x.b.n:=by rw [kap,h5.ip,h5.id]
 have hl:=okB_len h5.ok
 simp only [okL] at hl
 have hbid:=bid_of h5.ok
 have hclm:=clm_ok h5.ok (i:=ixP w.t p) (by omega)
 have hcm:msgH (clm x.b (opF x.b).t (ixP w.t p))=clmM (topM w.t n x.b) (kap w n) p:=by
  simp only [msgH,clm,clmM,topM,h9,hk]
 have hok:=hAt_ok h hp
 have hrole:roleF x.b (opF x.b).t (ixP w.t p)=roleM (hM (hAt w.t w.bs p)) (topM w.t n x.b) (kap w n) p:=by
  unfold roleF roleM
  have hc:((hrd x.b (ixP w.t p)).is=false∨lt6 (clm x.b (opF x.b).t (ixP w.t p)) (hrd x.b (ixP w.t p)) < 0)↔(hM (hAt w.t w.bs p)=none∨∃ m,hM (hAt w.t w.bs p)=some m∧mlt (clmM (topM w.t n x.b) (kap w n) p) m):=by
   rw [h8] at hok ⊢
   by_cases hi:(hrd x.b (ixP w.t p)).is=true
   ·rw [lt6_mlt (sml_hello hclm) (sml_hello (hok.1 hi)),hcm,hM,if_pos hi,hi]
    simp
   ·have hi':(hrd x.b (ixP w.t p)).is=false:=by simpa using hi
    rw [hM,if_neg hi,hi']
    simp
  simp only [hc,hvia]
 refine ⟨hrole,?_⟩
 have e:sntP w.t w.bs p=sentF x.b (opF x.b).t (ixP w.t p):=by rw [sntP,hf,Int.toNat_natCast,h4]
 rw [e,sentF,sentM,hrole]
 split
 ·have:hM (clm x.b (opF x.b).t (ixP w.t p))=some (msgH (clm x.b (opF x.b).t (ixP w.t p))):=if_pos rfl
  rw [this,hcm]
 ·rfl
theorem step_eq {q:Nat} (hq:upP w q) {n m:Nat} {x y:Bx} (hf:frP w.t q=(n:Nat)) (ht:toP w.t q=(m:Nat)) (hy:w.bs[m]? = some y) :
  hM (hAt w.t (rndW w).bs q)=tickM (rcvM (hM (hAt w.t w.bs q)) (sentM (hM (hAt w.t w.bs (bk q))) (topM w.t m y.b) (kap w m) (bk q))):=by
 have hv:=vBs_cpX h.vb
 obtain ⟨r1,r2,r3⟩:=rnd_at h.t h.bl hv
 have h1:=r3 q hq.1
 have hbk:=upP_bk hq
 have e0:∀ k,bsA (w.bs.map cpX) k=bsA w.bs k:=by
  intro k
  simp only [bsA,List.getElem?_map]
  cases w.bs[k]? with
  | none=>rfl
  | some x=>simp only [Option.map_some,Option.getD_some,cpX]; split <;> rfl
 have e1:sntP w.t (w.bs.map cpX) (bk q)=sntP w.t w.bs (bk q):=by simp only [sntP,e0]
 rw [e1,hAt_cpX] at h1
 obtain ⟨s1,s2⟩:=role_eq h hbk.1 (by rw [bk_fr]; exact ht) hy
 have hsn:(sntP w.t w.bs (bk q)).is=true→helloP (sntP w.t w.bs (bk q)):=by
  obtain ⟨n',x',h1,h2,h3,h4,h5,h6,h7,h8,h9,h10,h11⟩:=port_at h hbk.1
  have hl:=okB_len h5.ok
  simp only [okL] at hl
  intro hi
  simp only [sntP,h1,Int.toNat_natCast,h4] at hi ⊢
  unfold sentF at hi ⊢
  split at hi
  ·rename_i hr; rw [if_pos hr]; exact clm_ok h5.ok (by omega)
  ·exact (by cases hi)
 rw [← s2]
 show hM (hAt w.t (rndL w (w.bs.map cpX)) q)=_
 rw [h1,hM_tick]
 congr 1
 by_cases hi:(sntP w.t w.bs (bk q)).is=true
 ·rw [if_pos ⟨hi,hq.2⟩]
  exact hM_rcv (hAt_ok h hq.1) (hsn hi) hi
 ·rw [if_neg (fun h=>hi h.1)]
  have:hM (sntP w.t w.bs (bk q))=none:=if_neg hi
  rw [this]
  cases hM (hAt w.t w.bs q) <;> rfl
end
def runW (w:Nw):Nat→Nw
 | 0=>w
 | T+1=>rndW (runW w T)
theorem runW_t (w:Nw) (T:Nat):(runW w T).t=w.t∧(runW w T).prios=w.prios∧(runW w T).down=w.down:=by
 induction T with
 | zero=>exact ⟨rfl,rfl,rfl⟩
 | succ T ih=>exact ih
theorem VN.run {w:Nw} (h:VN w) (T:Nat):VN (runW w T):=by
 induction T with
 | zero=>exact h
 | succ T ih=>exact ih.rnd
theorem netX_mv (t:Tpo) (p:List Int) (d:List Bool) (b b':List Bx):netX ⟨t,p,d,b⟩=netX ⟨t,p,d,b'⟩:=rfl
theorem netX_eq {w w':Nw} (h1:w'.t=w.t) (h2:w'.prios=w.prios) (h3:w'.down=w.down):netX w'=netX w:=by
 obtain ⟨t,p,d,b⟩:=w
 obtain ⟨t',p',d',b'⟩:=w'
 simp only at h1 h2 h3
 subst h1 h2 h3
 exact netX_mv _ _ _ _ _
theorem roles_converge {w:Nw} (h:VN w) {T:Nat} (hT:21+w.t.nodes.toNat≤T) {p n:Nat} (hp:upP w p) (hf:frP w.t p=(n:Nat)):roleW (runW w T) n p=goalW w n p:=by
 have hX:∀ T,netX (runW w T)=netX w:=fun T=>netX_eq (runW_t w T).1 (runW_t w T).2.1 (runW_t w T).2.2
 have ht:∀ T,(runW w T).t=w.t:=fun T=>(runW_t w T).1
 have hup:∀ T q,upP w q→upP (runW w T) q:=fun T q hq=>⟨by rw [ht]; exact hq.1,by
  have:dnA (runW w T) (q / 2)=dnA w (q / 2):=by simp only [dnA,(runW_t w T).2.2]
  rw [this]; exact hq.2⟩
 have hkap:∀ T n,kap (runW w T) n=kap w n:=fun T n=>by simp only [kap,prA,(runW_t w T).2.1]
 have hbx:∀ T q,upP w q→∃ n x,frP w.t q=((n:Nat):Int)∧(runW w T).bs[n]? = some x∧bsA (runW w T).bs n=x.b∧stA w.t n=false:=by
  intro T q hq
  obtain ⟨n',x,h1,h2,h3,h4,_⟩:=port_at (h.run T) (hup T q hq).1
  rw [ht] at h1
  exact ⟨n',x,h1,h3,h4,by have:=hq.1.2.1; rwa [h1,Int.toNat_natCast] at this⟩
 have key:=converges (netX w) (netX_ok h) (fun T q=>hM (hAt w.t (runW w T).bs q)) (fun T n=>topM w.t n (bsA (runW w T).bs n)) ?_ ?_ ?_ hT (q:=p) hp
 ·have hn:(frP w.t p).toNat=n:=by rw [hf]; simp
  have e:roleM (hM (hAt w.t (runW w T).bs p)) (topM w.t n (bsA (runW w T).bs n)) (kap w n) p=goalM (netX w) p:=by
   have e0:roleM (hM (hAt w.t (runW w T).bs p)) (topM w.t (frP w.t p).toNat (bsA (runW w T).bs (frP w.t p).toNat)) (kap w (frP w.t p).toNat) p=goalM (netX w) p:=key
   rwa [hn] at e0
  rw [goal_eq h hp hf,← e]
  obtain ⟨n',x,h1,h2,h3,h4⟩:=hbx T p hp
  rw [hf] at h1
  obtain rfl:n=n':=by omega
  have hr:=(role_eq (h.run T) (hup T p hp).1 (by rw [ht]; exact hf) h2).1
  rw [ht,hkap] at hr
  rw [h3,← hr,roleW]
  have hbxA:bxA (runW w T) n=x:=by simp [bxA,h2]
  rw [hbxA,ht,ixP,hf]
 ·intro T q m hq hm
  have hok:=hAt_ok (h.run T) (hup T q hq).1
  rw [ht] at hok
  unfold hM at hm
  split at hm
  ·rename_i hi
   obtain rfl:=Option.some.inj hm
   have:=(hok.1 hi).2
   exact this
  ·cases hm
 ·intro T q hq
  obtain ⟨n',x,h1,h2,h3,h4⟩:=hbx T q hq
  have h5:=top_ok (h.run T) h2 (by rw [ht]; exact h4)
  rw [hX,ht] at h5
  show TopOk (netX w) _ (frP w.t q).toNat (topM w.t (frP w.t q).toNat (bsA (runW w T).bs (frP w.t q).toNat))
  rw [h1,Int.toNat_natCast,h3]
  exact h5
 ·intro T q hq
  obtain ⟨n',x,h1,h2,h3,h4⟩:=hbx T q hq
  obtain ⟨m',y,k1,k2,k3,k4⟩:=hbx T (bk q) (upP_bk hq)
  rw [bk_fr] at k1
  have h5:=step_eq (h.run T) (hup T q hq) (x:=x) (by rw [ht]; exact h1) (by rw [ht]; exact k1) k2
  rw [ht,hkap] at h5
  show hM (hAt w.t (runW w (T+1)).bs q)=tickM (rcvM (hM (hAt w.t (runW w T).bs q)) (sentM (hM (hAt w.t (runW w T).bs (bk q))) (topM w.t (toP w.t q).toNat (bsA (runW w T).bs (toP w.t q).toNat)) (kap w (toP w.t q).toNat) (bk q)))
  rw [k1,Int.toNat_natCast,k3]
  exact h5
theorem asL_congr {w w':Nw} {r r':Nat→Nat→Int} (h1:w'.t=w.t) (h2:w'.down=w.down) (h3:w'.bs.length=w.bs.length) (hr:∀ n p,n < w.bs.length→stA w.t n=false→p∈trunkL w.t (n:Nat)→dnA w (p / 2)=false→r' n p=r n p):asL w' r'=asL w r:=by
 unfold asL
 rw [h1,h3]
 congr 1
 refine foldl_eq _ _ (fun s n hn=>?_)
 have hn:=List.mem_range.1 hn
 unfold stS
 by_cases hs:stA w.t n=true
 ·rw [if_pos hs,if_pos hs]
 ·rw [if_neg hs,if_neg hs,asN,asN,h1]
  refine foldl_eq _ _ (fun s p hp=>?_)
  unfold asQ asV
  have hd:dnA w' (p / 2)=dnA w (p / 2):=by simp only [dnA,h2]
  rw [h1,hd]
  by_cases q1:dnA w (p / 2)=true
  ·rw [if_pos q1,if_pos q1]
  ·rw [if_neg q1,if_neg q1]
   by_cases q2:stA w.t (toP w.t p).toNat=true
   ·rw [if_pos q2,if_pos q2]
   ·rw [if_neg q2,if_neg q2,hr n p hn (by simpa using hs) (List.mem_filter.2 ⟨hp,by rw [innP]; simpa using q2⟩) (by simpa using q1)]
theorem as_converge {w:Nw} (h:VN w) {T:Nat} (hT:21+w.t.nodes.toNat≤T):asL (runW w T) (roleW (runW w T))=asL w (goalW w):=by
 have hb:=(h.run T).bl
 rw [(runW_t w T).1,← h.bl] at hb
 refine asL_congr (runW_t w T).1 (runW_t w T).2.2 (by omega) (fun n p hn hs hp hd=>?_)
 exact roles_converge h hT ⟨trP_of hs hp,hd⟩ (mem_trunk.1 hp).2.1
end Go.Proofs.Ytbibdnlbpjnieaa
namespace Go.Proofs.Ytbibdnlbpjnieaa
open Go Go.Abs
abbrev fl1:Fl:=⟨false,false,false,false,true⟩
def runF (f:Fl):Nat→Fl
 | 0=>f
 | _+1=>fl1
theorem RoundV (f:Fl) (w:Nw) (h:VN w):ans Try.prog pol 21 [nwT f w]=some (.tup [nwT fl1 (rndW w),I 0]):=Round_ok f w h.z h.ok h.b6
theorem rounds_ans (f:Fl) (w:Nw) (h:VN w) (n:Nat) (hn:n≤1000):ans Try.prog pol 10 [nwT f w,I (n:Nat)]=some (.tup [nwT (runF f n) (runW w n),B true]):=by
 refine ans_go 2000 1 il10_eq (Nat.le_of_ble_eq_true rfl) ?_
 (repeat' first|simp only [il10c,go_sem]|(with_reducible first|apply wD|apply wT|(apply wM; intro)|(apply wL; intro))|((with_reducible first|refine wA ?_ ?_|refine wE ?_); rfl))
 refine loop_upto n (step:=fun i (s:Unit)=>.go ()) (fin:=id)
  (St:=fun i _ e h=>(e 2=.ref 0 1 0 0∧e 4=.ref 1 1 0 0∧e 8=.t (I (n:Nat))∧e 9=.t (I (i:Nat)))∧∃ mr,mr≤1∧h=[.row 6 [.t (nwT (runF f i) (runW w i))] mr,.row 6 [.t zN6] 0])
  (Ex:=fun _ x e h=>(e 2=.ref 0 1 0 0∧e 4=.ref 1 1 0 0)∧x=.exit 0∧∃ mr,mr≤1∧h=[.row 6 [.t (nwT (runF f n) (runW w n))] mr,.row 6 [.t zN6] 0]) (s:=()) (by omega) ?_ ?_ (by omega) ?_ ?_
 ·intro i _ e hh Y R hi hlt hw ⟨hs,mr,hmr,hhe⟩ hk
  subst hhe
  simp only [ctlK_go] at hk
  have k1:=RoundV (runF f i) (runW w i) (h.run i)
  have hf:runF f (i+1)=fl1:=rfl
  have hr:runW w (i+1)=rndW (runW w i):=rfl
  rw [hf,hr] at hk
  generalize rndW (runW w i)=w2 at *
  generalize runW w i=w1 at *
  (repeat' first|simp only [il10l0_go,il10l0b,go_sem,hs,hlt,hw,k1,hmr]|(with_reducible first|apply wD|apply wT|(apply wM; intro)|(apply wL; intro))|((with_reducible first|refine wA ?_ ?_|refine wE ?_); rfl))
  all_goals (refine hk _ _ ⟨?_,1,Nat.le_refl _,?_⟩ <;> simp only [go_sem,hs,hw])
 ·intro _ e hh Y R hlt ⟨hs,mr,hmr,hhe⟩ hk
  subst hhe
  generalize runW w n=w1 at *
  (repeat' first|simp only [il10l0_go,il10l0b,go_sem,hs,hlt]|(with_reducible first|apply wD|apply wT|(apply wM; intro)|(apply wL; intro))|((with_reducible first|refine wA ?_ ?_|refine wE ?_); rfl))
  all_goals (refine hk _ _ _ ⟨?_,rfl,mr,hmr,rfl⟩; simp only [go_sem,hs])
 ·refine ⟨?_,0,by omega,rfl⟩
  simp only [go_sem]
 ·intro x e hh ⟨hs,hx,mr,hmr,hhe⟩
  subst hx hhe
  generalize runW w n=w1 at *
  (repeat' first|simp only [il10c,go_sem,hs,hmr]|(with_reducible first|apply wD|apply wT|(apply wM; intro)|(apply wL; intro))|((with_reducible first|refine wA ?_ ?_|refine wE ?_); rfl))
def t3:Tpo:=⟨5,[false,false,false,true,true],[⟨0,1,1,0⟩,⟨1,2,1,0⟩,⟨0,2,5,0⟩,⟨3,0,1,0⟩,⟨4,2,1,0⟩]⟩
theorem three_ans:ans Try.prog pol 16 []=some (tpT true true t3):=ans_of_run (n:=10) 3 (by kernel_rfl)
def pr0:List Int:=[0,0,0,0,0]
def n0:Nw:=⟨t3,pr0,List.replicate t3.links.length false,newL (newW t3 pr0)⟩
def n3:Nw:=⟨(rndW (rndW n0)).t,(rndW (rndW n0)).prios,(rndW (rndW n0)).down.set 1 true,cutL (rndW (rndW n0)) 1⟩
theorem t3_ok:okT t3=true:=by decide +kernel
theorem n0_ok:VN n0:=VN.new t3_ok (by decide +kernel)
theorem n3_ok:VN n3:=n0_ok.rnd.rnd.cut 1
theorem g0_eq:asL n0 (goalW n0)=[2,1,2,1,2,3,0,2,0,2]:=by decide +kernel
theorem r0_eq:asL n0 (roleW n0)=[2,2,2,2,2,2,0,2,0,2]:=by decide +kernel
theorem r2_eq:asL (rndW (rndW n0)) (roleW (rndW (rndW n0)))=[2,1,2,1,2,3,0,2,0,2]:=by decide +kernel
theorem g3_eq:asL n3 (goalW n3)=[2,1,0,0,2,1,0,2,0,2]:=by decide +kernel
theorem wakes_ans:ans Try.prog pol 7 []=some (B true):=by
 have k0:=three_ans
 have k1:ans Try.prog pol 15 [tpT true true t3,.sl true 1 [I 0,I 0,I 0,I 0,I 0]]=some (.tup [nwT fl1 n0,I 0]):=New_ok true true true t3 pr0 t3_ok (by decide +kernel)
 have k2:=GoalT_ok fl1 n0 n0_ok.z n0_ok.ok
 have k3:=RolesT_ok fl1 n0 n0_ok.z n0_ok.ok
 have k4:=RoundV fl1 n0 n0_ok
 have k5:=RoundV fl1 (rndW n0) n0_ok.rnd
 have k6:=RolesT_ok fl1 (rndW (rndW n0)) n0_ok.rnd.rnd.z n0_ok.rnd.rnd.ok
 have k7:ans Try.prog pol 13 [nwT fl1 (rndW (rndW n0)),I 1]=some (.tup [nwT fl1 n3,I 0]):=Cut_ok fl1 (rndW (rndW n0)) n0_ok.rnd.rnd.z n0_ok.rnd.rnd.ok 1 (by decide +kernel) n0_ok.rnd.rnd.b6
 have k8:=GoalT_ok fl1 n3 n3_ok.z n3_ok.ok
 have k9:=Cut_arg fl1 n0 5 n0_ok.z n0_ok.ok (.inr (by decide +kernel))
 rw [g0_eq] at k2
 rw [r0_eq] at k3
 rw [r2_eq] at k6
 rw [g3_eq] at k8
 have e1:=equalI_ans true true [2,1,2,1,2,3,0,2,0,2] [2,1,2,1,2,3,0,2,0,2] (by decide)
 have e2:=equalI_ans true true [2,2,2,2,2,2,0,2,0,2] [2,2,2,2,2,2,0,2,0,2] (by decide)
 have e3:=equalI_ans true true [2,1,0,0,2,1,0,2,0,2] [2,1,0,0,2,1,0,2,0,2] (by decide)
 have d1:decide ([(2:Int),1,2,1,2,3,0,2,0,2]=[2,1,2,1,2,3,0,2,0,2])=true:=by decide
 have d2:decide ([(2:Int),2,2,2,2,2,0,2,0,2]=[2,2,2,2,2,2,0,2,0,2])=true:=by decide
 have d3:decide ([(2:Int),1,0,0,2,1,0,2,0,2]=[2,1,0,0,2,1,0,2,0,2])=true:=by decide
 rw [d1] at e1
 rw [d2] at e2
 rw [d3] at e3
 simp only [List.map_cons,List.map_nil] at k2 k3 k6 k8 e1 e2 e3
 generalize n3=w3 at *
 generalize rndW (rndW n0)=w2 at *
 generalize rndW n0=w1 at *
 generalize n0=w0 at *
 generalize t3=T3 at *
 refine ans_go 100 1 il7_eq (Nat.le_of_ble_eq_true rfl) ?_
 (repeat' first|simp only [il7c,go_sem,k0,k1,k2,k3,k4,k5,k6,k7,k8,k9,e1,e2,e3]|(with_reducible first|apply wD|apply wT|(apply wM; intro)|(apply wL; intro))|((with_reducible first|refine wA ?_ ?_|refine wE ?_); rfl))
end Go.Proofs.Ytbibdnlbpjnieaa
namespace Go.Proofs.Ytbibdnlbpjnieaa
open Go Go.Abs
theorem asL_len (w:Nw) (r:Nat→Nat→Int):(asL w r).length=2*w.t.links.length:=by
 have h:∀ (l:List Nat) (s:List Int × Nat),asI w s→asI w (l.foldl (stS w.t (asN w r)) s):=by
  intro l
  induction l with
  | nil=>intro s h; exact h
  | cons n l ih =>
   intro s h
   refine ih _ ?_
   unfold stS
   split
   ·exact h
   ·exact asN_ok h
 exact (h _ _ ⟨by simp,Nat.zero_le _⟩).1
theorem asL_48 {w:Nw} (h:VN w) (r:Nat→Nat→Int):(asL w r).length≤1000000:=by
 obtain ⟨z1,z2,z3⟩:=okT_size h.t
 rw [asL_len]; omega
end Go.Proofs.Ytbibdnlbpjnieaa
