/- Part 24 of the proof of TreeShapes. -/
import Derived.Test.YtbibdnlbpjnieaaS23
set_option linter.all false
set_option maxRecDepth 100000
set_option maxHeartbeats 4000000
namespace Go.Proofs.Ytbibdnlbpjnieaa
open Go Go.Abs
def glC (w:Nw) (p:Nat):Prop:=dnA w (p / 2)=true∨stA w.t (toP w.t p).toNat=true
instance (w:Nw) (p:Nat):Decidable (glC w p):=inferInstanceAs (Decidable (_∨_))
def glT (w:Nw) (D:List Int) (s:(Int × Hd) × Nat) (p:Nat):(Int × Hd) × Nat:=if glC w p then s else if s.1.1 < 0∨lt6 (offG w D p (perP w.t p)) s.1.2 < 0 then (((p:Int),offG w D p (perP w.t p)),1) else s
def glS (w:Nw) (D:List Int) (s:Int × Hd) (p:Nat):Int × Hd:=if glC w p then s else if s.1 < 0∨lt6 (offG w D p (perP w.t p)) s.2 < 0 then ((p:Int),offG w D p (perP w.t p)) else s
def bestN (w:Nw) (R:List (Int × Int)) (D:List Int) (n:Nat):Int:=if rA R (n:Nat)=(prA w n,((n:Nat):Int)) then -1 else ((portsL w.t n).foldl (glS w D) (-1,zH)).1
theorem glT_fst (w:Nw) (D:List Int) (s:(Int × Hd) × Nat) (p:Nat):(glT w D s p).1=glS w D s.1 p:=by
 unfold glT glS
 split
 ·rfl
 ·split <;> rfl
theorem glT_snd {w:Nw} {D:List Int} {s:(Int × Hd) × Nat} (h:s.2≤1) (p:Nat):(glT w D s p).2≤1:=by
 unfold glT
 split
 ·exact h
 ·split
  ·exact Nat.le_refl _
  ·exact h
section
variable (f:Fl) (w:Nw) (R:List (Int × Int)) (D:List Int)
noncomputable def lpGl (rf:Code × Code) (E:FEnv) (busy:Bool):AObj:=.loop 25 (lpEnv 94 (tidyF (some [1,3,5,6]) E)) [25,26] rf.1 rf.2 busy none
noncomputable def hpGl (f:Fl) (w:Nw) (R:List (Int × Int)) (D:List Int) (rf:Code × Code) (E:FEnv) (busy:Bool) (s:List Int × Nat):Heap :=
 [.row 1 [.t (.sl true 2 (R.map encP))] 1,.gone,.row 1 ((s.1.map I).map .t) s.2,.row 1 [.ms 2 w.t.nodes.toNat 0 w.t.nodes.toNat 1 true] 1,.row 1 [.t (.fn (.func 48) [] (gcap1 f w true D))] 1,lpGl rf E busy]
def glE (f:Fl) (w:Nw) (E:FEnv):Prop:=E 1=.t (.ip (nwC f w))∧E 3=.ref 0 1 0 0∧E 5=.ref 3 1 0 0∧E 6=.ref 4 1 0 0
theorem lpGl_frz (rf:Code × Code) (E:FEnv) (hE:glE f w E) (busy:Bool) (h:Heap) (q:Nat) (hq:6≤q):frzObj h (fromB q) (lpGl rf E busy)=some (lpGl rf E busy):=by
 obtain ⟨h1,h3,h5,h6⟩:=hE
 have f0:decide (q≤0)=false:=decide_eq_false (by omega)
 have f3:decide (q≤3)=false:=decide_eq_false (by omega)
 have f4:decide (q≤4)=false:=decide_eq_false (by omega)
 rw [lpGl,frz_loop]
 simp only [go_sem,h1,h3,h5,h6,f0,f3,f4]
theorem hpGl_frz (rf:Code × Code) (E:FEnv) (hE:glE f w E) (busy:Bool) (s:List Int × Nat) (h:Heap) (q:Nat) (hq:6≤q):mapO (frzObj h (fromB q)) (hpGl f w R D rf E busy s)=some (hpGl f w R D rf E busy s):=by
 have a1:avoidAll (fromB q) [.ms 2 w.t.nodes.toNat 0 w.t.nodes.toNat 1 true]=true:=by simp [avoidAll,avoid,fromB]; omega
 have a2:∀ x:T,avoidAll (fromB q) [.t x]=true:=fun x=>by simp [avoidAll,avoid]
 have a3:frzObj h (fromB q) .gone=some .gone:=rfl
 simp only [hpGl,mapO,lpGl_frz f w rf E hE busy h q hq,frz_mapA,frz_rowA a1,frz_rowA (a2 _),a3]
variable (hok:okT w.t=true) (hbl:(w.bs.length:Int)=w.t.nodes) (hpl:(w.prios.length:Int)=w.t.nodes) (hdl:w.down.length=w.t.links.length) (hD:D.length=w.t.nodes.toNat) (hb:∀ x∈D,0≤x∧x≤12000)
include hok hbl hpl hdl hD hb
theorem goal_l0 (rf:Code × Code) (E:FEnv) (hE:glE f w E) (x:List T) (n:Nat) (hn:n < w.bs.length)
  (L:List Int) (hL:L.length=w.t.nodes.toNat) (dd nn:Nat) (hnn':200 < nn) (Q:Xit→FEnv→Heap→Prop) (e:FEnv)
  (he:e 1=.t (.ip (nwC f w))∧e 5=.ref 3 1 0 0∧e 6=.ref 4 1 0 0∧e 7=.t (I (n:Nat))∧e 8=.ref 7 1 0 0∧e 40=.t (.sl false 1 (((portsL w.t n).map ofN).map I))∧e 41=.t (I ((portsL w.t n).length:Nat))∧e 42=.t (I 0))
  (hR:∀ e mr h,mr≤1→Q (.exit 2) e (hpGl f w R D rf E true (L.set n ((portsL w.t n).foldl (glS w D) (-1,zH)).1,w.t.nodes.toNat)++[.row 5 [.t (.agg x)] 1,.row 6 [.t (rkT h)] mr])) :
  wpIter 8 (some [1,5,6,7,8,40,41,42]) (wc Try.prog pol (ans Try.prog pol) (inl Try.prog pol (ans Try.prog pol) nn dd) nn 25 il25l0) Q nn e (hpGl f w R D rf E true (L.set n (-1),w.t.nodes.toNat)++[.row 5 [.t (.agg x)] 1,.row 6 [.t (rkT zH)] 0]):=by
 obtain ⟨z1,z2,z3⟩:=okT_size hok
 have hpl2:=ports_len w.t n
 refine loop_range (portsL w.t n) (fun p=>I (ofN p)) (step:=fun _ p s=>.go (glT w D s p)) (fin:=id)
  (St:=fun i s e h=>(e 1=.t (.ip (nwC f w))∧e 5=.ref 3 1 0 0∧e 6=.ref 4 1 0 0∧e 7=.t (I (n:Nat))∧e 8=.ref 7 1 0 0∧e 40=.t (.sl false 1 (((portsL w.t n).map ofN).map I))∧e 41=.t (I ((portsL w.t n).length:Nat))∧e 42=.t (I (i:Nat)))∧s.2≤1∧h=hpGl f w R D rf E true (L.set n s.1.1,w.t.nodes.toNat)++[.row 5 [.t (.agg x)] 1,.row 6 [.t (rkT s.1.2)] s.2])
  (Ex:=fun s x' e h=>x'=.exit 2∧s.2≤1∧h=hpGl f w R D rf E true (L.set n s.1.1,w.t.nodes.toNat)++[.row 5 [.t (.agg x)] 1,.row 6 [.t (rkT s.1.2)] s.2]) (s:=((-1,zH),0)) (by omega) ?_ ?_ (by omega) ⟨he,Nat.zero_le _,rfl⟩ ?_
 ·intro i p ss e hp Y R' hm hi hx hget hlt hw ⟨hs',hI,hhp⟩ hk
  subst hhp
  simp only [ctlK_go] at hk
  have hI2:=glT_snd (w:=w) (D:=D) hI p
  have hplt:p < 2*w.t.links.length:=ports_lt hm
  have hget':(((portsL w.t n).map ofN).map I)[i]? = some (I (ofN p)):=by simp [hx]
  have k2:=other_ans f w p hok hplt
  obtain ⟨g1,q1⟩:=st_get w.t z2 (toP_node hok hplt)
  have hj:p / 2 < w.down.length:=by omega
  have g2:(w.down.map B)[p / 2]? = some (B (dnA w (p / 2))):=by simp [dnA,hj]
  have v2:IntKind.i64.wrap (Int.tdiv (p:Nat) 2)=((p / 2:Nat):Int):=by rw [tdiv2]; exact wrap_i64 (by omega) (by omega)
  obtain ⟨⟨v,m⟩,mr⟩:=ss
  dsimp only at hI hI2 hk
  have hsl:(((L.set n v).map I).map AV.t).length=w.t.nodes.toNat:=by simp [hL]
  have gx:(((L.set n v).map I).map AV.t)[n]? = some (.t (I v)):=map_get (enc:=I) (List.getElem?_set_self (by omega))
  have hset:=map_set (enc:=I) (l:=L.set n v) (i:=n) (x:=(p:Int))
  rw [List.set_set] at hset
  have hnl:n < w.t.nodes.toNat:=by omega
  have hav:∀ (q:Nat→Bool) (y:T),avoidAll q ((((L.set n v).map I).map AV.t).set n (.t y))=true:=fun q y=>by rw [← List.map_set,av_map]
  have fzl:∀ hx:Heap,frzObj hx (fromB 8) (lpGl rf E true)=some (lpGl rf E true):=fun hx=>lpGl_frz f w rf E hE true hx 8 (by omega)
  have hper:=per_ok hok hplt
  have k3:=goal1_ans f w true D hok hpl hD hb p (perP w.t p) hplt (by omega)
  have glk:(w.t.links.map encK)[p / 2]? = some (lkT (lnk w.t (p / 2))):=by simp [lnk,encK,show p / 2 < w.t.links.length by omega]
  have hpp:(lnk w.t (p / 2)).per=perP w.t p:=rfl
  have k4:=compH_ans (offG w D p (perP w.t p)) m
  have hc4:(T.fn (.func 48) [] (gcap1 f w true D)).cells=[.fn (.func 48) [] (gcap1 f w true D)]:=rfl
  simp only [gcap1,List.cons_append,List.nil_append] at k3 hc4
  simp only [glT,hpGl,gcap1,List.cons_append,List.nil_append] at hk hI2 ⊢
  cases hdn:dnA w (p / 2) with
  | true =>
   rw [hdn] at g2
   rw [if_pos (show glC w p from .inl hdn)] at hk hI2
   (repeat' first|simp only [il25l0_go,il25l0b,go_sem,hs',hget',hlt,hw,ofN,v2,g2,frz_mapA,fzl]|(with_reducible first|apply wD|apply wT|(apply wM; intro)|(apply wL; intro))|((with_reducible first|refine wA ?_ ?_|refine wE ?_); rfl))
   all_goals (refine hk _ _ ⟨?_,hI2,?_⟩ <;> simp only [go_sem,hs',hw])
  | false =>
   rw [hdn] at g2
   cases hst:stA w.t (toP w.t p).toNat with
   | true =>
    rw [hst] at g1
    rw [if_pos (show glC w p from .inr hst)] at hk hI2
    (repeat' first|simp only [il25l0_go,il25l0b,go_sem,hs',hget',hlt,hw,ofN,v2,g1,g2,q1,k2,frz_mapA,fzl]|(with_reducible first|apply wD|apply wT|(apply wM; intro)|(apply wL; intro))|((with_reducible first|refine wA ?_ ?_|refine wE ?_); rfl))
    all_goals (refine hk _ _ ⟨?_,hI2,?_⟩ <;> simp only [go_sem,hs',hw])
   | false =>
    rw [hst] at g1
    rw [if_neg (show ¬ glC w p by simp [glC,hdn,hst])] at hk hI2
    generalize hoff:offG w D p (perP w.t p)=o at *
    by_cases hv:v < 0
    ·have d1:=decide_eq_true hv
     rw [if_pos (.inl hv)] at hk hI2
     rw [← hset] at hk
     (repeat' first|simp only [il25l0_go,il25l0b,go_sem,hs',hget',hlt,hw,ofN,v2,g1,g2,q1,k2,k3,glk,hpp,hc4,gx,hsl,hnl,hav,d1,hI,frz_mapA,fzl]|(with_reducible first|apply wD|apply wT|(apply wM; intro)|(apply wL; intro))|((with_reducible first|refine wA ?_ ?_|refine wE ?_); rfl))
     all_goals (refine hk _ _ ⟨?_,hI2,?_⟩ <;> simp only [go_sem,hs',hw])
    ·have d1:=decide_eq_false hv
     by_cases hc:lt6 o m < 0
     ·have d2:=decide_eq_true hc
      rw [if_pos (.inr hc)] at hk hI2
      rw [← hset] at hk
      (repeat' first|simp only [il25l0_go,il25l0b,go_sem,hs',hget',hlt,hw,ofN,v2,g1,g2,q1,k2,k3,k4,glk,hpp,hc4,gx,hsl,hnl,hav,d1,d2,hI,frz_mapA,fzl]|(with_reducible first|apply wD|apply wT|(apply wM; intro)|(apply wL; intro))|((with_reducible first|refine wA ?_ ?_|refine wE ?_); rfl))
      all_goals (refine hk _ _ ⟨?_,hI2,?_⟩ <;> simp only [go_sem,hs',hw])
     ·have d2:=decide_eq_false hc
      rw [if_neg (by rintro (h|h); exact hv h; exact hc h)] at hk hI2
      (repeat' first|simp only [il25l0_go,il25l0b,go_sem,hs',hget',hlt,hw,ofN,v2,g1,g2,q1,k2,k3,k4,glk,hpp,hc4,gx,hsl,hnl,hav,d1,d2,hI,frz_mapA,fzl]|(with_reducible first|apply wD|apply wT|(apply wM; intro)|(apply wL; intro))|((with_reducible first|refine wA ?_ ?_|refine wE ?_); rfl))
      all_goals (refine hk _ _ ⟨?_,hI2,?_⟩ <;> simp only [go_sem,hs',hw])
 ·intro s e h Y R' hlt ⟨hs',hI,hh⟩ hk
  subst hh
  (repeat' first|simp only [il25l0_go,il25l0b,go_sem,hs',hlt]|(with_reducible first|apply wD|apply wT|(apply wM; intro)|(apply wL; intro))|((with_reducible first|refine wA ?_ ?_|refine wE ?_); rfl))
  all_goals (refine hk _ _ _ ⟨rfl,hI,rfl⟩)
 ·intro x e h ⟨h2,h1,h3⟩
  have hf:∀ (l:List Nat) (i:Nat) (s:(Int × Hd) × Nat),foldC (ρ:=(Int × Hd) × Nat) (fun _ p s=>Ctl.go (glT w D s p)) id i l s=l.foldl (glT w D) s:=by
   intro l
   induction l with
   | nil=>intro i s; rfl
   | cons x l ih =>
    intro i s
    rw [foldC_go (s':=glT w D s x) rfl,ih,List.foldl_cons]
  rw [hf] at h1 h3
  rw [fold_fst (glT w D) (glS w D) (glT_fst w D)] at h3
  subst h2 h3
  exact hR _ _ _ h1
end
end Go.Proofs.Ytbibdnlbpjnieaa
namespace Go.Proofs.Ytbibdnlbpjnieaa
open Go Go.Abs
theorem goal_yield (f:Fl) (w:Nw) (R:List (Int × Int)) (D:List Int) (hok:okT w.t=true) (hbl:(w.bs.length:Int)=w.t.nodes) (hpl:(w.prios.length:Int)=w.t.nodes) (hdl:w.down.length=w.t.links.length) (hD:D.length=w.t.nodes.toNat) (hb:∀ x∈D,0≤x∧x≤12000) (hRl:R.length=w.t.nodes.toNat)
  (rf:Code × Code) (hrf:rfOf Try.prog 25 0=rf) (E:FEnv) (hE:glE f w E) (s:List Int × Nat) (hs:s.1.length=w.t.nodes.toNat∧s.2≤w.t.nodes.toNat) (n:Nat) (x:List T) (hn:n < w.bs.length) (dd nn:Nat) (hnn:200 < nn) (Q:AV→Heap→Prop)
  (hQ:∀ X',Q (.t (B true)) (hpGl f w R D rf E false (s.1.set n (bestN w R D n),w.t.nodes.toNat)++[.row 5 [.t (.agg x)] 1]++X')) :
  oB (inl Try.prog pol (ans Try.prog pol) nn (dd+1) (.yl 5) [.t (I (n:Nat)),.t (.agg x)] (hpGl f w R D rf E false s++[.row 5 [.t (.agg x)] 1])) Q:=by
 subst hrf
 obtain ⟨E1,E3,E5,E6⟩:=id hE
 obtain ⟨z1,z2,z3⟩:=okT_size hok
 have k1:=nports_ans f w n hok (by omega)
 have k2:=id_ans f w n (by omega)
 obtain ⟨L,mr⟩:=s
 obtain ⟨hL,hmr⟩:=hs
 dsimp only at hL hmr hQ ⊢
 have hnl:n < w.t.nodes.toNat:=by omega
 have hsl:((L.map I).map AV.t).length=w.t.nodes.toNat:=by simp [hL]
 obtain ⟨y,hy⟩:∃ y,L[n]? = some y:=⟨L[n]'(by omega),by simp [show n < L.length by omega]⟩
 have gx:((L.map I).map AV.t)[n]? = some (.t (I y)):=map_get (enc:=I) hy
 have hset:=map_set (enc:=I) (l:=L) (i:=n) (x:=(-1:Int))
 have hav:∀ (q:Nat→Bool) (y:T),avoidAll q (((L.map I).map AV.t).set n (.t y))=true:=fun q y=>by rw [← List.map_set,av_map]
 obtain ⟨z,hz⟩:∃ z,R[n]? = some z:=⟨R[n]'(by omega),by simp [show n < R.length by omega]⟩
 have hra:rA R ((n:Nat):Int)=z:=by simp [rA,hz]
 have gR:(R.map encP)[n]? = some (.agg [I z.1,I z.2]):=by simp [hz,encP]
 have hRn:n < R.length:=by omega
 have hcz:(T.agg [I z.1,I z.2]).cells=[I z.1,I z.2]:=rfl
 have hcR:(T.sl true 2 (R.map encP)).cells=[T.sl true 2 (R.map encP)]:=rfl
 have hlen2:((portsL w.t n).map ofN).length=(portsL w.t n).length:=by simp
 have hbest:bestN w R D n=if z=(prA w n,((n:Nat):Int)) then -1 else ((portsL w.t n).foldl (glS w D) (-1,zH)).1:=by rw [bestN,hra]
 rw [hbest] at hQ
 have hR:=fun (Q:Xit→FEnv→Heap→Prop) (e:FEnv) he hR=>goal_l0 f w R D hok hbl hpl hdl hD hb (rfOf Try.prog 25 0) E hE x n hn L hL dd nn hnn Q e he hR
 have hlb:∀ s:List Int × Nat,hpGl f w R D (rfOf Try.prog 25 0) E false s=[.row 1 [.t (.sl true 2 (R.map encP))] 1,.gone,.row 1 ((s.1.map I).map .t) s.2,.row 1 [.ms 2 w.t.nodes.toNat 0 w.t.nodes.toNat 1 true] 1,.row 1 [.t (.fn (.func 48) [] (gcap1 f w true D))] 1,.loop 25 (lpEnv 94 (tidyF (some [1,3,5,6]) E)) [25,26] (rfOf Try.prog 25 0).1 (rfOf Try.prog 25 0).2 false none]:=fun s=>rfl
 have hlt:∀ s:List Int × Nat,hpGl f w R D (rfOf Try.prog 25 0) E true s=[.row 1 [.t (.sl true 2 (R.map encP))] 1,.gone,.row 1 ((s.1.map I).map .t) s.2,.row 1 [.ms 2 w.t.nodes.toNat 0 w.t.nodes.toNat 1 true] 1,.row 1 [.t (.fn (.func 48) [] (gcap1 f w true D))] 1,.loop 25 (lpEnv 94 (tidyF (some [1,3,5,6]) E)) [25,26] (rfOf Try.prog 25 0).1 (rfOf Try.prog 25 0).2 true none]:=fun s=>rfl
 simp only [hlb,hlt,zH,gcap1,List.cons_append,List.nil_append] at hR hQ ⊢
 rw [← hset] at hR
 by_cases hq:z.1=prA w n∧z.2=((n:Nat):Int)
 ·have d1:=decide_eq_true hq
  rw [if_pos (Prod.ext hq.1 hq.2),← hset] at hQ
  with_reducible refine oB_yl (E:=tidyF (some [1,3,5,6]) E) rfl rfl rfl il25r0a_eq il25r0b_eq ?_
  (repeat' first|simp only [il25r0a,il25r0b,go_sem,E1,E3,E5,E6,k2,gx,hsl,hnl,hmr,hav,gR,hRn,hcz,hcR,d1]|(with_reducible first|apply wD|apply wT|(apply wM; intro)|(apply wL; intro))|((with_reducible first|refine wA ?_ ?_|refine wE ?_); rfl))
  all_goals exact hQ _
 ·have d1:=decide_eq_false hq
  rw [if_neg (fun h=>hq (by rw [h]; exact ⟨rfl,rfl⟩))] at hQ
  generalize ((portsL w.t n).foldl (glS w D) (-1,zH)).1=V at *
  with_reducible refine oB_yl (E:=tidyF (some [1,3,5,6]) E) rfl rfl rfl il25r0a_eq il25r0b_eq ?_
  (repeat' first|simp only [il25r0a,il25r0b,go_sem,E1,E3,E5,E6,k1,k2,gx,hsl,hnl,hmr,hav,gR,hRn,hcz,hcR,d1,hlen2]|(with_reducible first|apply wD|apply wT|(apply wM; intro)|(apply wL; intro))|((with_reducible first|refine wA ?_ ?_|refine wE ?_); rfl))
  with_reducible refine hR _ _ ?_ ?_
  ·simp only [go_sem,E1,E3,E5,E6,hlen2]
  intro e mr h hmr2
  all_goals exact hQ _
end Go.Proofs.Ytbibdnlbpjnieaa
namespace Go.Proofs.Ytbibdnlbpjnieaa
open Go Go.Abs
def bestAt (w:Nw) (R:List (Int × Int)) (D:List Int) (n:Nat):Int:=if stA w.t n=true then 0 else bestN w R D n
def bestL (w:Nw) (R:List (Int × Int)) (D:List Int):List Int:=(List.range w.bs.length).map (bestAt w R D)
theorem rtRoundL_len (w:Nw) (R:List (Int × Int)):(rtRoundL w R).length=R.length:=by
 unfold rtRoundL
 generalize w.t.links.length=k
 induction k with
 | zero=>rfl
 | succ k ih =>
  rw [List.range_succ,List.foldl_append,List.foldl_cons,List.foldl_nil]
  generalize (List.range k).foldl (upS w (rtS1 w)) R=S at *
  unfold upS
  split
  ·simp [rtS1,ih]
  ·exact ih
theorem rootsL_len (w:Nw):(rootsL w).length=w.t.nodes.toNat:=by
 unfold rootsL
 generalize hN:w.t.nodes.toNat=N
 have:∀ k,((List.range k).foldl (fun R _=>rtRoundL w R) (rt0 w)).length=N:=by
  intro k
  induction k with
  | zero=>simp [rt0,hN]
  | succ k ih=>rw [List.range_succ,List.foldl_append,List.foldl_cons,List.foldl_nil,rtRoundL_len,ih]
 exact this N
theorem distL_ok {w:Nw} (hok:okT w.t=true) (R:List (Int × Int)):(distL w R).length=w.t.nodes.toNat∧∀ x∈distL w R,0≤x∧x≤12000:=by
 have h0:dsI w (ds0 w R,0):=by
  refine ⟨⟨by simp [ds0],Nat.zero_le _⟩,fun x hx=>?_⟩
  simp only [ds0,List.mem_map] at hx
  obtain ⟨m,_,rfl⟩:=hx
  split <;> omega
 have:∀ k,dsI w ((List.range k).foldl (fun s _=>dsRound w s) (ds0 w R,0)):=by
  intro k
  induction k with
  | zero=>exact h0
  | succ k ih=>rw [List.range_succ,List.foldl_append,List.foldl_cons,List.foldl_nil]; exact dsRound_ok hok ih
 have h:=this w.t.nodes.toNat
 have e:((List.range w.t.nodes.toNat).foldl (fun s _=>dsRound w s) (ds0 w R,0)).1=distL w R:=fold_fst (fun s _=>dsRound w s) (fun D _=>dsRoundL w D) (fun s _=>dsRound_fst w s) _ _
 obtain ⟨⟨h1,h2⟩,h3⟩:=h
 rw [e] at h1 h3
 exact ⟨h1,h3⟩
theorem snap_box {h:Heap} {o d:Nat} {x:AV} {t:T} (ho:h[o]? = some (.row 1 [x] 1)) (hx:x.cells=[x]) (hs:snap h allObj d x=some t):snap h allObj (d+1) (.ref o 1 0 0)=some (.ip [t]):=by
 rw [sn_ref,row_at ho (Nat.le_refl _) (by omega) (by simp)]
 simp [snR_some,hx,mapO,hs,snR.snO]
theorem snap_fn {h:Heap} {d:Nat} {g:Fn} {b:List AV} {ts:List T} (hs:mapO (snap h allObj d) b=some ts):snap h allObj (d+1) (.fn g [] b)=some (.fn g [] ts):=by
 simp only [snap,mapO,hs]
theorem goal_ans (f:Fl) (w:Nw) (hok:okT w.t=true) (hbl:(w.bs.length:Int)=w.t.nodes) (hpl:(w.prios.length:Int)=w.t.nodes) (hdl:w.down.length=w.t.links.length):ans Try.prog pol 25 [nwT f w] =
  some (.fn (.func 50) [] [.ip [.sl true 1 ((distL w (rootsL w)).map I)],.ip (nwC f w),.ip [.sl true 1 ((bestL w (rootsL w) (distL w (rootsL w))).map I)],.ip [.fn (.func 48) [] (gcap1 f w true (distL w (rootsL w)))]]):=by
 obtain ⟨z1,z2,z3⟩:=okT_size hok
 have kr:=roots_ans f w hok hpl hdl
 have hRl:=rootsL_len w
 have kd:=distances_ans f true w (rootsL w) hok hpl hdl hRl
 obtain ⟨hDl,hDb⟩:=distL_ok hok (rootsL w)
 generalize hR:rootsL w=R at *
 generalize hD:distL w R=D at *
 have hNb:w.t.nodes.toNat=w.bs.length:=by omega
 have hNn:w.t.nodes=(w.bs.length:Nat):=by omega
 have hroom:8*w.bs.length≤roomB:=by rw [Nat.mul_comm]; exact ap_room (by omega) (by omega)
 have hbig:w.bs.length≤9223372036854775807:=by omega
 have hb100:w.bs.length≤100:=by omega
 obtain ⟨nn,h2000⟩:∃ nn,2000 < nn:=⟨2001,by omega⟩
 have hn2:200 < nn:=by omega
 have asn:asNat (.t (I w.t.nodes))=some w.bs.length:=by rw [hNn]; rfl
 refine ans_go nn 6 il25_eq (Nat.le_of_ble_eq_true rfl) ?_
 simp only [il25c]
 generalize hrf:rfOf Try.prog 25 0=rf
 have hrep:List.replicate w.bs.length (AV.t (T.sc (Value.int IntKind.i64 0)))=((List.replicate w.bs.length (0:Int)).map I).map .t:=by simp
 (repeat' first|simp only [List.cons_append,List.nil_append,go_sem,hroom,hbig,asn,kr,kd,hrep,frz_mapA]|(with_reducible first|apply wD|apply wT|(apply wM; intro)|(apply wL; intro))|((with_reducible first|refine wA ?_ ?_|refine wE ?_); rfl)|((with_reducible refine oB_inl il26_eq ?_ ?_); exact Nat.le_of_ble_eq_true rfl; simp only [il26c]))
 have key:∀ E:FEnv,([.row 1 [.t (.sl true 2 (R.map encP))] 1,.gone,.row 1 (((List.replicate w.bs.length (0:Int)).map I).map .t) 0,.row 1 [.ms 2 w.bs.length 0 w.bs.length 1 true] 1,.row 1 [.t (.fn (.func 48) [] (gcap1 f w true D))] 1,.loop 25 (lpEnv 94 (tidyF (some [1,3,5,6]) E)) [25,26] rf.1 rf.2 false none]:Heap)=hpGl f w R D rf E false (List.replicate w.bs.length 0,0):=fun E=>by rw [← hNb]; rfl
 simp only [gcap1] at key
 rw [key]
 have h56:5 < 6:=by omega
 have hI0:(List.replicate w.bs.length (0:Int),0).1=fillL (bestAt w R D) 0 w.bs.length 0∧(List.replicate w.bs.length (0:Int),0).2≤w.bs.length:=⟨(fillL_zero _ _ _).symm,Nat.zero_le _⟩
 have hstep:∀ (n:Nat) (s:List Int × Nat),n < w.bs.length→(s.1=fillL (bestAt w R D) 0 w.bs.length n∧s.2≤w.bs.length)→((stS w.t (fun (s:List Int × Nat) n=>(s.1.set n (bestN w R D n),w.bs.length)) s n).1=fillL (bestAt w R D) 0 w.bs.length (n+1)∧(stS w.t (fun (s:List Int × Nat) n=>(s.1.set n (bestN w R D n),w.bs.length)) s n).2≤w.bs.length):=by
  intro n s hnb hI
  unfold stS
  by_cases hs:stA w.t n=true
  ·rw [if_pos hs,fillL_same hnb (by rw [bestAt,if_pos hs])]
   exact hI
  ·rw [if_neg hs]
   refine ⟨?_,Nat.le_refl _⟩
   show s.1.set n _=_
   rw [hI.1]
   exact fillL_set hnb (by rw [bestAt,if_neg hs])
 with_reducible refine @all_iterT (List Int × Nat) (fun s=>hpGl f w R D rf _ false s) 6 (fun s=>rfl) (fun s n=>(s.1.set n (bestN w R D n),w.bs.length)) 5 nn 5 (fun n s=>s.1=fillL (bestAt w R D) 0 w.bs.length n∧s.2≤w.bs.length) w hstep ?_ h56 f z2 hbl hb100 ?_ (List.replicate w.bs.length 0,0) hI0 _ hn2 ?_
 ·intro s h q hq
  exact hpGl_frz f w R D rf _ (by simp only [go_sem,glE]) false s h q hq
 ·intro s n x Q hx hs hI hQ
  have hnl:n < w.bs.length:=(List.getElem?_eq_some_iff.1 hx).1
  have hI:s.1=fillL (bestAt w R D) 0 w.bs.length n∧s.2≤w.bs.length:=hI
  have hQ':∀ X',Q (.t (B true)) (hpGl f w R D rf _ false (s.1.set n (bestN w R D n),w.bs.length)++[.row 5 [.t (.agg (bxC x))] 1]++X'):=hQ
  have hl:s.1.length=w.bs.length:=by rw [hI.1]; exact fillL_len _ _ (Nat.le_of_lt hnl)
  have hy:=fun E hE=>@goal_yield f w R D hok hbl hpl hdl hDl hDb hRl rf hrf E hE s ⟨by omega,by omega⟩ n (bxC x) hnl 4 nn hn2 Q
  rw [hNb] at hy
  with_reducible exact hy _ (by simp only [go_sem,glE]) hQ'
 ·intro v
  have hfin:∀ k,k≤w.bs.length→((List.range k).foldl (stS w.t (fun (s:List Int × Nat) n=>(s.1.set n (bestN w R D n),w.bs.length))) (List.replicate w.bs.length 0,0)).1=fillL (bestAt w R D) 0 w.bs.length k∧((List.range k).foldl (stS w.t (fun (s:List Int × Nat) n=>(s.1.set n (bestN w R D n),w.bs.length))) (List.replicate w.bs.length 0,0)).2≤w.bs.length:=by
   intro k
   induction k with
   | zero=>intro _; exact hI0
   | succ k ih =>
    intro hk
    rw [List.range_succ,List.foldl_append,List.foldl_cons,List.foldl_nil]
    exact hstep k _ (by omega) (ih (by omega))
  obtain ⟨hf1,hf2⟩:=hfin w.bs.length (Nat.le_refl _)
  generalize (List.range w.bs.length).foldl _ _=s at *
  rw [fillL_all] at hf1
  change rfEnd _ _ _ v (hpGl f w R D rf _ false s)
  have hbL:bestL w R D=s.1:=by rw [hf1]; rfl
  rw [hbL]
  have hl4:s.1.length=w.bs.length:=by rw [hf1]; simp
  have hl5:((s.1.map I).map AV.t).length=w.bs.length:=by simp [hl4]
  simp only [hpGl,lpGl,hNb,gcap1,List.cons_append,List.nil_append]
  (repeat' first|simp only [il25c,go_sem,frz_mapA,hf2,hl5]|(with_reducible first|apply wD|apply wT|(apply wM; intro)|(apply wL; intro))|((with_reducible first|refine wA ?_ ?_|refine wE ?_); rfl))
  generalize hH:([AObj.row 1 [AV.t (T.sl true 2 (List.map encP R))] 1,AObj.gone,AObj.row 1 (List.map AV.t (List.map I s.fst)) s.snd,AObj.row 1 [AV.ms 2 w.bs.length 0 w.bs.length 1 true] 1,AObj.row 1 [AV.t (T.fn (Fn.func 48) [] [T.ip (nwC f w),T.ip [T.sl true 1 (List.map I D)]])] 1]:Heap)=H
  have e0:snap H allObj 18 (.ms 2 w.bs.length 0 w.bs.length 1 true)=some (.sl true 1 (s.1.map I)):=snap_msr (d:=16) rfl (by rw [← hH]; rfl) hf2 hl4.symm
  have e1:snap H allObj 19 (.ref 3 1 0 0)=some (.ip [.sl true 1 (s.1.map I)]):=snap_box (by rw [← hH]; rfl) rfl e0
  have e2:snap H allObj 19 (.ref 4 1 0 0)=some (.ip [T.fn (Fn.func 48) [] [T.ip (nwC f w),T.ip [T.sl true 1 (List.map I D)]]]):=snap_box (by rw [← hH]; rfl) rfl (sn_t)
  exact snap_fn (by simp only [mapO,sn_t,e1,e2])
end Go.Proofs.Ytbibdnlbpjnieaa
namespace Go.Proofs.Ytbibdnlbpjnieaa
open Go Go.Abs
def goalW (w:Nw) (n p:Nat):Int:=goalG w (distL w (rootsL w)) (bestL w (rootsL w) (distL w (rootsL w))) n p
theorem GoalT_ok (f:Fl) (w:Nw) (hz:zOk w) (hok:okN w=true):ans Try.prog pol 9 [nwT f w]=some (.tup [.sl true 1 ((asL w (goalW w)).map I),I 0]):=by
 have hO:=okN_ok hok hz
 obtain ⟨z1,z2,z3⟩:=okT_size hO.t
 have hpl:=rankL_len hO.rank
 have hbl:=hO.bl
 have k1:=CheckN_ans f w hz (by omega) (by omega)
 rw [if_pos hok] at k1
 have kg:=goal_ans f w hO.t hbl hpl hO.dl
 obtain ⟨hDl,hDb⟩:=distL_ok hO.t (rootsL w)
 have hbL:(bestL w (rootsL w) (distL w (rootsL w))).length=w.t.nodes.toNat:=by simp [bestL]; omega
 have k2:=assign_ans f w 50 _ (goalW w) hO.t hbl hO.dl rfl rfl (fun n p hn hs hp _=>goal2_ans f w true (distL w (rootsL w)) hO.t hpl hDl hDb true (bestL w (rootsL w) (distL w (rootsL w))) hbL n p (by omega) (trunk_lt hp))
 refine ans_go 2000 5 il9_eq (Nat.le_of_ble_eq_true rfl) ?_
 simp only [il9c]
 (repeat' first|simp only [List.cons_append,List.nil_append,go_sem,k1,kg,k2]|(with_reducible first|apply wD|apply wT|(apply wM; intro)|(apply wL; intro))|((with_reducible first|refine wA ?_ ?_|refine wE ?_); rfl))
end Go.Proofs.Ytbibdnlbpjnieaa
namespace Go.Proofs.Ytbibdnlbpjnieaa
open Go Go.Abs
def kap (w:Nw) (n:Nat):Int:=16*prA w n+(n:Nat)
def upE (w:Nw) (i:Nat):List Ed:=if upA w i=true then [⟨(lnk w.t i).a.toNat,(lnk w.t i).b.toNat,(lnk w.t i).per⟩,⟨(lnk w.t i).b.toNat,(lnk w.t i).a.toNat,(lnk w.t i).per⟩] else []
def edW (w:Nw):List Ed:=(List.range w.t.links.length).flatMap (upE w)
theorem prA_bd {w:Nw} (hr:rankL w.t w.prios=true) (n:Nat):0≤prA w n∧prA w n≤15:=by
 simp only [rankL,Bool.and_eq_true,List.all_eq_true,decide_eq_true_eq] at hr
 unfold prA
 cases h:w.prios[n]? with
 | none=>simp
 | some x=>exact hr.2 x (List.mem_of_getElem? h)
theorem kap_inj {w:Nw} (hr:rankL w.t w.prios=true) {i j:Nat} (hi:i < 16) (hj:j < 16) (h:kap w i=kap w j):i=j:=by
 have:=prA_bd hr i
 have:=prA_bd hr j
 unfold kap at h
 omega
section
variable {w:Nw} (h:VN w)
include h
theorem ends_N {i:Nat} (hi:i < w.t.links.length):(lnk w.t i).a.toNat < w.t.nodes.toNat∧(lnk w.t i).b.toNat < w.t.nodes.toNat∧(lnk w.t i).a.toNat≠(lnk w.t i).b.toNat∧1≤(lnk w.t i).per∧(lnk w.t i).per≤1000∧(lnk w.t i).a=((lnk w.t i).a.toNat:Nat)∧(lnk w.t i).b=((lnk w.t i).b.toNat:Nat):=by
 obtain ⟨⟨h1,h2⟩,⟨h3,h4⟩,h5⟩:=ends_at h.t hi
 have hp:=per_ok h.t (p:=2*i) (by omega)
 have e1:2*i / 2=i:=by omega
 rw [perP,e1] at hp
 refine ⟨by omega,by omega,fun h=>h5 (by omega),hp.1,hp.2,by omega,by omega⟩
theorem edW_ok:∀ e∈edW w,e.a < w.t.nodes.toNat∧e.b < w.t.nodes.toNat∧e.a≠e.b∧1≤e.w:=by
 intro e he
 simp only [edW,List.mem_flatMap,List.mem_range] at he
 obtain ⟨i,hi,he⟩:=he
 obtain ⟨h1,h2,h3,h4,h5,_,_⟩:=ends_N h hi
 unfold upE at he
 split at he
 ·simp only [List.mem_cons,List.not_mem_nil,or_false] at he
  rcases he with rfl|rfl
  ·exact ⟨h1,h2,h3,h4⟩
  ·exact ⟨h2,h1,fun h=>h3 h.symm,h4⟩
 ·cases he
theorem edW_w:∀ e∈edW w,e.w≤1000:=by
 intro e he
 simp only [edW,List.mem_flatMap,List.mem_range] at he
 obtain ⟨i,hi,he⟩:=he
 obtain ⟨h1,h2,h3,h4,h5,_,_⟩:=ends_N h hi
 unfold upE at he
 split at he
 ·simp only [List.mem_cons,List.not_mem_nil,or_false] at he
  rcases he with rfl|rfl <;> exact h5
 ·cases he
omit h in
theorem edW_sym:symE (edW w):=by
 intro e he
 simp only [edW,List.mem_flatMap,List.mem_range] at he ⊢
 obtain ⟨i,hi,he⟩:=he
 refine ⟨i,hi,?_⟩
 unfold upE at he ⊢
 split at he
 ·rename_i hu
  rw [if_pos hu]
  simp only [List.mem_cons,List.not_mem_nil,or_false] at he ⊢
  rcases he with rfl|rfl
  ·right; rfl
  ·left; rfl
 ·cases he
def RelR (w:Nw) (R:List (Int × Int)) (f:Nat→Nat):Prop:=R.length=w.t.nodes.toNat∧∀ n,n < w.t.nodes.toNat→R[n]? = some (prA w (f n),((f n:Nat):Int))∧f n < w.t.nodes.toNat
omit h in
theorem minR_kap (hr:rankL w.t w.prios=true) {x y:Nat} (hx:x < 16) (hy:y < 16):minR (prA w x,((x:Nat):Int)) (prA w y,((y:Nat):Int))=if kap w y < kap w x then (prA w y,((y:Nat):Int)) else (prA w x,((x:Nat):Int)):=by
 have h1:=prA_bd hr x
 have h2:=prA_bd hr y
 have hb:∀ (a:Int) (z:Nat),0≤a∧a≤15→z < 16→Bnd (hd2 (a,((z:Nat):Int))):=fun a z ha hz=>⟨by simp only [hd2]; omega,by simp only [hd2]; omega,by simp only [hd2]; omega,by simp only [hd2]; omega,by simp only [hd2]; omega,by simp only [hd2]; omega⟩
 have h3:=lt6_num (hb (prA w y) y h2 hy) (hb (prA w x) x h1 hx)
 have h4:num (hd2 (prA w y,((y:Nat):Int))) < num (hd2 (prA w x,((x:Nat):Int)))↔kap w y < kap w x:=by
  simp only [num,hd2,kap]
  omega
 rw [minR]
 simp only [h3,h4]
theorem rtS1_rel {R:List (Int × Int)} {f:Nat→Nat} (hR:RelR w R f) {i:Nat} (hi:i < w.t.links.length) :
  RelR w (rtS1 w R i) (pull (kap w) (pull (kap w) f ⟨(lnk w.t i).a.toNat,(lnk w.t i).b.toNat,(lnk w.t i).per⟩) ⟨(lnk w.t i).b.toNat,(lnk w.t i).a.toNat,(lnk w.t i).per⟩):=by
 obtain ⟨h1,h2,h3,h4,h5,_,_⟩:=ends_N h hi
 obtain ⟨z1,z2,z3⟩:=okT_size h.t
 unfold rtS1
 generalize (lnk w.t i).a=a at *
 generalize (lnk w.t i).b=b at *
 obtain ⟨r1,r2⟩:=hR
 obtain ⟨ra1,ra2⟩:=r2 _ h1
 obtain ⟨rb1,rb2⟩:=r2 _ h2
 have ea:rA R a=(prA w (f a.toNat),((f a.toNat:Nat):Int)):=by rw [rA,ra1]; rfl
 have eb:rA R b=(prA w (f b.toNat),((f b.toNat:Nat):Int)):=by rw [rA,rb1]; rfl
 rw [ea,eb,minR_kap h.rank (by omega) (by omega)]
 generalize a.toNat=A at *
 generalize b.toNat=B at *
 have hA:pull (kap w) f ⟨A,B,(lnk w.t i).per⟩ A=if kap w (f B) < kap w (f A) then f B else f A:=by rw [pull]; exact setF_same
 have hB:pull (kap w) f ⟨A,B,(lnk w.t i).per⟩ B=f B:=by rw [pull]; exact setF_ne (fun h=>h3 h.symm)
 have hval:∀ n,pull (kap w) (pull (kap w) f ⟨A,B,(lnk w.t i).per⟩) ⟨B,A,(lnk w.t i).per⟩ n=if n=A∨n=B then (if kap w (f B) < kap w (f A) then f B else f A) else f n:=by
  intro n
  by_cases hn:n=B
  ·subst hn
   rw [if_pos (.inr rfl)]
   have:pull (kap w) (pull (kap w) f ⟨A,n,(lnk w.t i).per⟩) ⟨n,A,(lnk w.t i).per⟩ n=if kap w (pull (kap w) f ⟨A,n,(lnk w.t i).per⟩ A) < kap w (pull (kap w) f ⟨A,n,(lnk w.t i).per⟩ n) then pull (kap w) f ⟨A,n,(lnk w.t i).per⟩ A else pull (kap w) f ⟨A,n,(lnk w.t i).per⟩ n:=setF_same
   rw [this,hA,hB]
   by_cases hc:kap w (f n) < kap w (f A)
   ·rw [if_pos hc,if_neg (by omega)]
   ·rw [if_neg hc]
    by_cases hc2:kap w (f A) < kap w (f n)
    ·rw [if_pos hc2]
    ·rw [if_neg hc2]
     exact kap_inj h.rank (by omega) (by omega) (by omega)
  ·have:pull (kap w) (pull (kap w) f ⟨A,B,(lnk w.t i).per⟩) ⟨B,A,(lnk w.t i).per⟩ n=pull (kap w) f ⟨A,B,(lnk w.t i).per⟩ n:=setF_ne hn
   rw [this]
   by_cases hn2:n=A
   ·subst hn2; rw [if_pos (.inl rfl),hA]
   ·rw [if_neg (fun h=>h.elim hn2 hn)]
    exact setF_ne hn2
 have hm:(if kap w (f B) < kap w (f A) then (prA w (f B),((f B:Nat):Int)) else (prA w (f A),((f A:Nat):Int)))=(prA w (if kap w (f B) < kap w (f A) then f B else f A),(((if kap w (f B) < kap w (f A) then f B else f A):Nat):Int)):=by
  split <;> rfl
 rw [hm]
 have hlt:(if kap w (f B) < kap w (f A) then f B else f A) < w.t.nodes.toNat:=by split <;> omega
 generalize (if kap w (f B) < kap w (f A) then f B else f A)=V at *
 refine ⟨by simp [r1],fun n hn=>?_⟩
 rw [hval n]
 by_cases hn2:n=B
 ·subst hn2
  rw [if_pos (.inr rfl),List.getElem?_set_self (by simp [r1,hn])]
  exact ⟨rfl,hlt⟩
 ·rw [List.getElem?_set_ne (fun h=>hn2 h.symm)]
  by_cases hn3:n=A
  ·subst hn3
   rw [if_pos (.inl rfl),List.getElem?_set_self (by rw [r1]; exact hn)]
   exact ⟨rfl,hlt⟩
  ·rw [if_neg (fun h=>h.elim hn3 hn2),List.getElem?_set_ne (fun h=>hn3 h.symm)]
   exact r2 n hn
theorem rtRoundL_rel {R:List (Int × Int)} {f:Nat→Nat} (hR:RelR w R f):RelR w (rtRoundL w R) (rndR (kap w) (edW w) f):=by
 have key:∀ k,k≤w.t.links.length→RelR w ((List.range k).foldl (upS w (rtS1 w)) R) (rndR (kap w) ((List.range k).flatMap (upE w)) f):=by
  intro k
  induction k with
  | zero=>intro _; exact hR
  | succ k ih =>
   intro hk
   have ih:=ih (by omega)
   rw [List.range_succ,List.foldl_append,List.foldl_cons,List.foldl_nil,List.flatMap_append,rndR,List.foldl_append]
   change RelR w _ (List.foldl (pull (kap w)) (rndR (kap w) ((List.range k).flatMap (upE w)) f) _)
   generalize (List.range k).foldl (upS w (rtS1 w)) R=S at *
   generalize rndR (kap w) ((List.range k).flatMap (upE w)) f=g at *
   simp only [List.flatMap_cons,List.flatMap_nil,List.append_nil]
   unfold upS upE
   split
   ·exact rtS1_rel h ih (by omega)
   ·exact ih
 exact key _ (Nat.le_refl _)
theorem rootsL_rel:RelR w (rootsL w) (roots (kap w) (edW w) w.t.nodes.toNat):=by
 have h0:RelR w (rt0 w) id:=⟨by simp [rt0],fun n hn=>⟨by simp [rt0,hn],hn⟩⟩
 have key:∀ k,RelR w ((List.range k).foldl (fun R _=>rtRoundL w R) (rt0 w)) (iter (rndR (kap w) (edW w)) k id):=by
  intro k
  induction k with
  | zero=>exact h0
  | succ k ih=>rw [List.range_succ,List.foldl_append,List.foldl_cons,List.foldl_nil]; exact rtRoundL_rel h ih
 exact key _
def RelD (w:Nw) (D:List Int) (d:Nat→Int):Prop:=D.length=w.t.nodes.toNat∧∀ n,n < w.t.nodes.toNat→D[n]? = some (d n)
omit h in
theorem minI_min (x y:Int):minI x y=min x y:=by unfold minI; split <;> omega
theorem dsS1_rel {D:List Int} {d:Nat→Int} (hD:RelD w D d) {i:Nat} (hi:i < w.t.links.length) :
  RelD w (dsS1 w D i) (rlx (rlx d ⟨(lnk w.t i).a.toNat,(lnk w.t i).b.toNat,(lnk w.t i).per⟩) ⟨(lnk w.t i).b.toNat,(lnk w.t i).a.toNat,(lnk w.t i).per⟩):=by
 obtain ⟨h1,h2,h3,h4,h5,_,_⟩:=ends_N h hi
 obtain ⟨r1,r2⟩:=hD
 unfold dsS1
 simp only [dsB,dsA,minI_min,dA]
 rw [r2 _ h1,r2 _ h2]
 simp only [Option.getD_some]
 generalize (lnk w.t i).a.toNat=A at *
 generalize (lnk w.t i).b.toNat=B at *
 generalize (lnk w.t i).per=W at *
 have hA:rlx d ⟨A,B,W⟩ A=min (d A) (d B+W):=setF_same
 have hB:rlx d ⟨A,B,W⟩ B=d B:=setF_ne (fun h=>h3 h.symm)
 refine ⟨by simp [r1],fun n hn=>?_⟩
 by_cases hn2:n=B
 ·subst hn2
  rw [List.getElem?_set_self (by simp [r1,hn])]
  have:rlx (rlx d ⟨A,n,W⟩) ⟨n,A,W⟩ n=min (rlx d ⟨A,n,W⟩ n) (rlx d ⟨A,n,W⟩ A+W):=setF_same
  rw [this,hA,hB]
 ·rw [List.getElem?_set_ne (fun h=>hn2 h.symm)]
  have:rlx (rlx d ⟨A,B,W⟩) ⟨B,A,W⟩ n=rlx d ⟨A,B,W⟩ n:=setF_ne hn2
  rw [this]
  by_cases hn3:n=A
  ·subst hn3
   rw [List.getElem?_set_self (by rw [r1]; exact hn),hA]
  ·rw [List.getElem?_set_ne (fun h=>hn3 h.symm)]
   have:rlx d ⟨A,B,W⟩ n=d n:=setF_ne hn3
   rw [this]
   exact r2 n hn
theorem dsRoundL_rel {D:List Int} {d:Nat→Int} (hD:RelD w D d):RelD w (dsRoundL w D) (rndD (edW w) d):=by
 have key:∀ k,k≤w.t.links.length→RelD w ((List.range k).foldl (upS w (dsS1 w)) D) (rndD ((List.range k).flatMap (upE w)) d):=by
  intro k
  induction k with
  | zero=>intro _; exact hD
  | succ k ih =>
   intro hk
   have ih:=ih (by omega)
   rw [List.range_succ,List.foldl_append,List.foldl_cons,List.foldl_nil,List.flatMap_append,rndD,List.foldl_append]
   change RelD w _ (List.foldl rlx (rndD ((List.range k).flatMap (upE w)) d) _)
   generalize (List.range k).foldl (upS w (dsS1 w)) D=S at *
   generalize rndD ((List.range k).flatMap (upE w)) d=g at *
   simp only [List.flatMap_cons,List.flatMap_nil,List.append_nil]
   unfold upS upE
   split
   ·exact dsS1_rel h ih (by omega)
   ·exact ih
 exact key _ (Nat.le_refl _)
theorem distL_rel:RelD w (distL w (rootsL w)) (iter (rndD (edW w)) w.t.nodes.toNat (fun i=>if roots (kap w) (edW w) w.t.nodes.toNat i=i then 0 else 12000)):=by
 obtain ⟨r1,r2⟩:=rootsL_rel h
 obtain ⟨z1,z2,z3⟩:=okT_size h.t
 have h0:RelD w (ds0 w (rootsL w)) (fun i=>if roots (kap w) (edW w) w.t.nodes.toNat i=i then 0 else 12000):=by
  refine ⟨by simp [ds0],fun n hn=>?_⟩
  obtain ⟨e1,e2⟩:=r2 n hn
  have e3:rA (rootsL w) ((n:Nat):Int)=(prA w (roots (kap w) (edW w) w.t.nodes.toNat n),((roots (kap w) (edW w) w.t.nodes.toNat n:Nat):Int)):=by rw [rA,Int.toNat_natCast,e1]; rfl
  rw [ds0,List.getElem?_map,List.getElem?_range hn,Option.map_some,e3]
  congr 1
  show _=(if roots (kap w) (edW w) w.t.nodes.toNat n=n then (0:Int) else 12000)
  generalize roots (kap w) (edW w) w.t.nodes.toNat n=rn
  by_cases hr:rn=n
  ·subst hr; simp
  ·rw [if_neg hr,if_neg]
   intro h
   have:=congrArg Prod.snd h
   simp only at this
   omega
 have key:∀ k,RelD w ((List.range k).foldl (fun D _=>dsRoundL w D) (ds0 w (rootsL w))) (iter (rndD (edW w)) k (fun i=>if roots (kap w) (edW w) w.t.nodes.toNat i=i then 0 else 12000)):=by
  intro k
  induction k with
  | zero=>exact h0
  | succ k ih=>rw [List.range_succ,List.foldl_append,List.foldl_cons,List.foldl_nil]; exact dsRoundL_rel h ih
 exact key _
theorem net_dst:Dst (kap w) (edW w) w.t.nodes.toNat (roots (kap w) (edW w) w.t.nodes.toNat) (iter (rndD (edW w)) w.t.nodes.toNat (fun i=>if roots (kap w) (edW w) w.t.nodes.toNat i=i then 0 else 12000)) ∧
  ∀ i,i < w.t.nodes.toNat→iter (rndD (edW w)) w.t.nodes.toNat (fun i=>if roots (kap w) (edW w) w.t.nodes.toNat i=i then 0 else 12000) i≤1000*((w.t.nodes.toNat:Int) - 1):=by
 obtain ⟨z1,z2,z3⟩:=okT_size h.t
 exact dst_ok (W:=1000) (edW_ok h) (edW_w h) (by omega) (by omega) (by omega) edW_sym (fun i j hi hj hk=>kap_inj h.rank (by omega) (by omega) hk)
end
end Go.Proofs.Ytbibdnlbpjnieaa
namespace Go.Proofs.Ytbibdnlbpjnieaa
open Go Go.Abs
def upP (w:Nw) (p:Nat):Prop:=trP w.t p∧dnA w (p / 2)=false
theorem upP_bk {w:Nw} {p:Nat} (h:upP w p):upP w (bk p):=⟨trP_bk h.1,by rw [bk_half]; exact h.2⟩
def rootF (w:Nw) (n:Nat):Nat:=roots (kap w) (edW w) w.t.nodes.toNat n
def distF (w:Nw) (n:Nat):Int:=iter (rndD (edW w)) w.t.nodes.toNat (fun i=>if roots (kap w) (edW w) w.t.nodes.toNat i=i then 0 else 12000) n
theorem ed_of {w:Nw} {p:Nat} (h:upP w p):(⟨(frP w.t p).toNat,(toP w.t p).toNat,perP w.t p⟩:Ed)∈edW w:=by
 obtain ⟨⟨h1,h2,h3⟩,h4⟩:=h
 simp only [edW,List.mem_flatMap,List.mem_range]
 refine ⟨p / 2,by omega,?_⟩
 have hu:upA w (p / 2)=true:=by
  unfold frP at h2
  unfold toP at h3
  unfold upA
  by_cases hp:p % 2=0
  ·rw [if_pos hp] at h2 h3; rw [h4,h2,h3]; rfl
  ·rw [if_neg hp] at h2 h3; rw [h4,h2,h3]; rfl
 rw [upE,if_pos hu]
 unfold frP toP perP
 by_cases hp:p % 2=0
 ·rw [if_pos hp,if_pos hp]; simp
 ·rw [if_neg hp,if_neg hp]; simp
theorem ed_to {w:Nw} {e:Ed} (h:e∈edW w):∃ p,upP w p∧(frP w.t p).toNat=e.a∧(toP w.t p).toNat=e.b∧perP w.t p=e.w:=by
 simp only [edW,List.mem_flatMap,List.mem_range] at h
 obtain ⟨i,hi,he⟩:=h
 unfold upE at he
 split at he
 ·rename_i hu
  simp only [upA,Bool.and_eq_true,Bool.not_eq_true'] at hu
  obtain ⟨u1,u2,u3⟩:=hu
  have e1:2*i / 2=i:=by omega
  have e2:(2*i+1) / 2=i:=by omega
  have e3:2*i % 2=0:=by omega
  have e4:¬ (2*i+1) % 2=0:=by omega
  have f1:frP w.t (2*i)=(lnk w.t i).a:=by rw [frP,if_pos e3,e1]
  have f2:toP w.t (2*i)=(lnk w.t i).b:=by rw [toP,if_pos e3,e1]
  have f3:frP w.t (2*i+1)=(lnk w.t i).b:=by rw [frP,if_neg e4,e2]
  have f4:toP w.t (2*i+1)=(lnk w.t i).a:=by rw [toP,if_neg e4,e2]
  have g1:perP w.t (2*i)=(lnk w.t i).per:=by rw [perP,e1]
  have g2:perP w.t (2*i+1)=(lnk w.t i).per:=by rw [perP,e2]
  simp only [List.mem_cons,List.not_mem_nil,or_false] at he
  rcases he with rfl|rfl
  ·exact ⟨2*i,⟨⟨by omega,by rw [f1]; exact u2,by rw [f2]; exact u3⟩,by rw [e1]; exact u1⟩,by rw [f1],by rw [f2],g1⟩
  ·exact ⟨2*i+1,⟨⟨by omega,by rw [f3]; exact u3,by rw [f4]; exact u2⟩,by rw [e2]; exact u1⟩,by rw [f3],by rw [f4],g2⟩
 ·cases he
theorem lt6_lx3 {c d e f g c' d' e' f' g':Int} (he:0≤e∧e < 16) (he':0≤e'∧e' < 16) :
  lt6 ⟨true,0,0,c,d,e,f,g⟩ ⟨true,0,0,c',d',e',f',g'⟩ < 0↔lx3 c (16*d+e) f c' (16*d'+e') f':=by
 simp only [lt6,lex1,lex0,and_false,or_false,lx3,Int.lt_irrefl,true_and,false_or]
 constructor
 ·rintro (h|⟨h1,h|⟨h2,h|⟨h3,h4⟩⟩⟩) <;> omega
 ·rintro (h|⟨h1,h|⟨h2,h3⟩⟩) <;> omega
theorem gl_spec {w:Nw} {D:List Int} {κ:Nat→Int} (P:Nat→Nat→Prop) (hP:∀ p q,lt6 (offG w D p (perP w.t p)) (offG w D q (perP w.t q)) < 0↔P p q) (htr:∀ p q r,¬ P p q→¬ P q r→¬ P p r) (hir:∀ p,¬ P p p) (has:∀ p q,P p q→¬ P q p) :
  ∀ (l:List Nat),((l.foldl (glS w D) (-1,zH)=(-1,zH))∧∀ p∈l,glC w p)∨∃ p∈l,¬ glC w p∧l.foldl (glS w D) (-1,zH)=((p:Int),offG w D p (perP w.t p))∧∀ q∈l,¬ glC w q→¬ P q p:=by
 intro l
 suffices hrev:∀ l:List Nat,((l.reverse.foldl (glS w D) (-1,zH)=(-1,zH))∧∀ p∈l.reverse,glC w p)∨∃ p∈l.reverse,¬ glC w p∧l.reverse.foldl (glS w D) (-1,zH)=((p:Int),offG w D p (perP w.t p))∧∀ q∈l.reverse,¬ glC w q→¬ P q p by
  have:=hrev l.reverse
  rwa [List.reverse_reverse] at this
 intro l
 induction l with
 | nil=>left; exact ⟨rfl,fun p hp=>(by cases hp)⟩
 | cons x l ih =>
  rw [List.reverse_cons,List.foldl_append,List.foldl_cons,List.foldl_nil]
  by_cases hx:glC w x
  ·have e:∀ s,glS w D s x=s:=fun s=>by rw [glS,if_pos hx]
   rw [e]
   rcases ih with ⟨h1,h2⟩|⟨p,h1,h2,h3,h4⟩
   ·left
    refine ⟨h1,fun p hp=>?_⟩
    rw [List.mem_append] at hp
    rcases hp with hp|hp
    ·exact h2 p hp
    ·rw [List.mem_singleton] at hp; rw [hp]; exact hx
   ·right
    refine ⟨p,by simp at h1 ⊢; exact .inl h1,h2,h3,fun q hq hc=>?_⟩
    rw [List.mem_append] at hq
    rcases hq with hq|hq
    ·exact h4 q hq hc
    ·rw [List.mem_singleton] at hq; rw [hq] at hc; exact absurd hx hc
  ·right
   rcases ih with ⟨h1,h2⟩|⟨p,h1,h2,h3,h4⟩
   ·refine ⟨x,by simp,hx,?_,fun q hq hc=>?_⟩
    ·rw [h1,glS,if_neg hx,if_pos (.inl (by decide))]
    ·rw [List.mem_append] at hq
     rcases hq with hq|hq
     ·exact absurd (h2 q hq) hc
     ·rw [List.mem_singleton] at hq; rw [hq]; exact hir x
   ·by_cases hlt:P x p
    ·refine ⟨x,by simp,hx,?_,fun q hq hc=>?_⟩
     ·rw [h3,glS,if_neg hx,if_pos (.inr ((hP x p).2 hlt))]
     ·rw [List.mem_append] at hq
      rcases hq with hq|hq
      ·exact htr q p x (h4 q hq hc) (has x p hlt)
      ·rw [List.mem_singleton] at hq; rw [hq]; exact hir x
    ·refine ⟨p,by simp at h1 ⊢; exact .inl h1,h2,?_,fun q hq hc=>?_⟩
     ·rw [h3,glS,if_neg hx,if_neg]
      rintro (h|h)
      ·simp only at h; omega
      ·exact hlt ((hP x p).1 h)
     ·rw [List.mem_append] at hq
      rcases hq with hq|hq
      ·exact h4 q hq hc
      ·rw [List.mem_singleton] at hq; rw [hq]; exact hlt
section
variable {w:Nw} (h:VN w)
include h
theorem rootsA (n:Nat) (hn:n < w.t.nodes.toNat):rA (rootsL w) (n:Nat)=(prA w (rootF w n),((rootF w n:Nat):Int)):=by
 obtain ⟨e1,e2⟩:=(rootsL_rel h).2 n hn
 rw [rA,Int.toNat_natCast,e1]; rfl
theorem distA (n:Nat) (hn:n < w.t.nodes.toNat):dA (distL w (rootsL w)) (n:Nat)=distF w n:=by
 have e:=(distL_rel h).2 n hn
 rw [dA,Int.toNat_natCast,e]; rfl
theorem fr_N {p:Nat} (hp:trP w.t p):(frP w.t p).toNat < w.t.nodes.toNat∧frP w.t p=((frP w.t p).toNat:Nat):=by
 obtain ⟨h1,h2⟩:=frP_node h.t hp.1
 omega
theorem to_N {p:Nat} (hp:trP w.t p):(toP w.t p).toNat < w.t.nodes.toNat∧toP w.t p=((toP w.t p).toNat:Nat):=by
 obtain ⟨h1,h2⟩:=toP_node h.t hp.1
 omega
theorem best_spec {n:Nat} (hn:n < w.t.nodes.toNat) (hst:stA w.t n=false) (hr:rootF w n≠n) :
  ∃ b,bestN w (rootsL w) (distL w (rootsL w)) n=(b:Nat)∧upP w b∧frP w.t b=(n:Nat)∧distF w n=distF w (toP w.t b).toNat+perP w.t b ∧
   ∀ q,upP w q→frP w.t q=(n:Nat)→q≠b→lx3 (distF w (toP w.t b).toNat+perP w.t b) (kap w (toP w.t b).toNat) (bk b:Nat) (distF w (toP w.t q).toNat+perP w.t q) (kap w (toP w.t q).toNat) (bk q:Nat):=by
 obtain ⟨z1,z2,z3⟩:=okT_size h.t
 have hdst:=(net_dst h).1
 have hra:=rootsA h n hn
 have hne:¬ rA (rootsL w) (n:Nat)=(prA w n,((n:Nat):Int)):=by
  rw [hra]
  intro he
  have:=congrArg Prod.snd he
  simp only at this
  exact hr (by omega)
 obtain ⟨e,he,ea,ed⟩:=hdst.par n hn hr
 obtain ⟨p0,hp0,f1,f2,f3⟩:=ed_to he
 rw [ea] at f1
 have hf0:=(fr_N h hp0.1).2
 rw [f1] at hf0
 -- all ports of the list are within range,so that the order is that of the numbers
 have hto:∀ p,p < 2*w.t.links.length→0≤toP w.t p∧toP w.t p < 16:=fun p hp=>by
  obtain ⟨h1,h2⟩:=toP_node h.t hp
  omega
 let P:Nat→Nat→Prop:=fun p q=>lt6 (offG w (distL w (rootsL w)) p (perP w.t p)) (offG w (distL w (rootsL w)) q (perP w.t q)) < 0
 have hbn:bestN w (rootsL w) (distL w (rootsL w)) n=((portsL w.t n).foldl (glS w (distL w (rootsL w))) (-1,zH)).1:=by rw [bestN,if_neg hne]
 have lst:∀ x y:Hd,lt6 x y < 0↔(x.a < y.a∨x.a=y.a∧(x.b < y.b∨x.b=y.b∧(x.c < y.c∨x.c=y.c∧(x.d < y.d∨x.d=y.d∧(x.e < y.e∨x.e=y.e∧x.f < y.f))))):=fun x y=>by
  simp only [lt6,lex1,lex0,and_false,or_false]
 have hsp:=gl_spec (w:=w) (D:=distL w (rootsL w)) (κ:=kap w) P (fun p q=>Iff.rfl)
  (fun p q r h1 h2=>by simp only [P,lst] at *; omega) (fun p=>by simp only [P,lst]; omega) (fun p q h1=>by simp only [P,lst] at *; omega) (portsL w.t n)
 have hmem:∀ q,upP w q→frP w.t q=(n:Nat)→q∈portsL w.t n:=fun q hq hf=>by
  simp only [portsL,List.mem_filter,List.mem_range,decide_eq_true_eq]
  exact ⟨hq.1.1,hf⟩
 have hgl:∀ q,upP w q→¬ glC w q:=fun q hq hc=>by
  rcases hc with hc|hc
  ·rw [hq.2] at hc; cases hc
  ·rw [hq.1.2.2] at hc; cases hc
 have hdA:∀ p,p < 2*w.t.links.length→dA (distL w (rootsL w)) (toP w.t p)=distF w (toP w.t p).toNat:=fun p hp=>by
  obtain ⟨h1,h2⟩:=toP_node h.t hp
  have:=distA h (toP w.t p).toNat (by omega)
  rwa [show (((toP w.t p).toNat:Nat):Int)=toP w.t p by omega] at this
 rcases hsp with ⟨_,h2⟩|⟨b,h1,h2,h3,h4⟩
 ·exact absurd (h2 p0 (hmem p0 hp0 hf0)) (hgl p0 hp0)
 ·simp only [portsL,List.mem_filter,List.mem_range,decide_eq_true_eq] at h1
  have hb:upP w b:=by
   refine ⟨⟨h1.1,by rw [h1.2,Int.toNat_natCast]; exact hst,?_⟩,?_⟩
   ·cases hs:stA w.t (toP w.t b).toNat with
    | false=>rfl
    | true=>exact absurd (.inr hs) h2
   ·cases hs:dnA w (b / 2) with
    | false=>rfl
    | true=>exact absurd (.inl hs) h2
  have hcmp:∀ q,upP w q→frP w.t q=(n:Nat)→¬ lx3 (distF w (toP w.t q).toNat+perP w.t q) (kap w (toP w.t q).toNat) (bk q:Nat) (distF w (toP w.t b).toNat+perP w.t b) (kap w (toP w.t b).toNat) (bk b:Nat):=by
   intro q hq hf
   have h5:=h4 q (hmem q hq hf) (hgl q hq)
   simp only [P] at h5
   have e1:=hto q hq.1.1
   have e2:=hto b hb.1.1
   rw [offG,offG,lt6_lx3 e1 e2,hdA q hq.1.1,hdA b hb.1.1] at h5
   unfold kap
   rwa [show (((toP w.t q).toNat:Nat):Int)=toP w.t q by omega,show (((toP w.t b).toNat:Nat):Int)=toP w.t b by omega]
  refine ⟨b,by rw [hbn,h3],hb,h1.2,?_,?_⟩
  ·have h5:=hcmp p0 hp0 hf0
   have h6:=hdst.edge _ (ed_of hb)
   simp only at h6
   rw [h1.2,Int.toNat_natCast] at h6
   rw [f2,f3] at h5
   change distF w n≤distF w (toP w.t b).toNat+perP w.t b at h6
   change distF w n=distF w e.b+e.w at ed
   unfold lx3 at h5
   omega
  ·intro q hq hf hqb
   have h5:=hcmp q hq hf
   have hbk:bk q≠bk b:=fun h=>hqb (by rw [← bk_bk q,h,bk_bk])
   unfold lx3 at h5 ⊢
   omega
def netX (w:Nw):Net:=⟨w.t.nodes.toNat,upP w,fun p=>(frP w.t p).toNat,fun p=>(toP w.t p).toNat,bk,perP w.t,kap w,rootF w,distF w,fun n=>(bestN w (rootsL w) (distL w (rootsL w)) n).toNat⟩
omit h in
theorem bestN_of {n b:Nat} (he:bestN w (rootsL w) (distL w (rootsL w)) n=(b:Nat)):(netX w).bst n=b:=by
 show (bestN w (rootsL w) (distL w (rootsL w)) n).toNat=b
 rw [he]; simp
theorem root_st {n:Nat} (hn:n < w.t.nodes.toNat) (hr:rootF w n≠n):stA w.t n=false:=by
 obtain ⟨e,he,ea,ed⟩:=(net_dst h).1.par n hn hr
 obtain ⟨p0,hp0,f1,f2,f3⟩:=ed_to he
 rw [← ea,← f1]
 exact hp0.1.2.1
theorem netX_ok:NetOk (netX w):=by
 obtain ⟨z1,z2,z3⟩:=okT_size h.t
 obtain ⟨hd,hbd⟩:=net_dst h
 have hinj:∀ i j,i < w.t.nodes.toNat→j < w.t.nodes.toNat→kap w i=kap w j→i=j:=fun i j hi hj hk=>kap_inj h.rank (by omega) (by omega) hk
 refine ⟨fun q hq=>(fr_N h hq.1).1,fun q hq=>(to_N h hq.1).1,fun q hq=>⟨upP_bk hq,?_,?_,bk_bk q,?_⟩,fun q hq=>(per_ok h.t hq.1.1).1,fun q hq=>?_,hinj,fun q hq=>?_,fun i hi=>⟨?_,?_⟩,fun q hq=>?_,fun i hi hr=>?_,fun i hi=>?_,fun i hi=>?_,?_,fun i hi hr=>?_⟩
 ·show (frP w.t (bk q)).toNat=(toP w.t q).toNat
  rw [bk_fr]
 ·show (toP w.t (bk q)).toNat=(frP w.t q).toNat
  rw [bk_to]
 ·show perP w.t (bk q)=perP w.t q
  rw [perP,perP,bk_half]
 ·exact (edW_ok h _ (ed_of hq)).2.2.1
 ·exact roots_same (κ:=kap w) (N:=w.t.nodes.toNat) (fun e he=>⟨(edW_ok h e he).1,(edW_ok h e he).2.1⟩) edW_sym hinj _ (ed_of hq)
 ·exact roots_le i
 ·exact (roots_cn (κ:=kap w) (E:=edW w) (N:=w.t.nodes.toNat) i).lt (fun e he=>⟨(edW_ok h e he).1,(edW_ok h e he).2.1⟩) hi
 ·exact hd.edge _ (ed_of hq)
 ·exact hd.top i hi hr
 ·exact hd.nn i hi
 ·have:=hbd i hi
  show distF w i≤1048576
  change distF w i≤_ at this
  omega
 ·show w.t.nodes.toNat≤12
  omega
 ·obtain ⟨b,b1,b2,b3,b4,b5⟩:=best_spec h hi (root_st h hi hr) hr
  rw [bestN_of b1]
  refine ⟨b2,?_,b4,fun q hq hf hne=>b5 q hq ?_ hne⟩
  ·show (frP w.t b).toNat=i
   rw [b3]; simp
  ·have:=(fr_N h hq.1).2
   have hf':(frP w.t q).toNat=i:=hf
   rw [hf'] at this; exact this
theorem goal_eq {p n:Nat} (hp:upP w p) (hf:frP w.t p=(n:Nat)):goalW w n p=goalM (netX w) p:=by
 obtain ⟨z1,z2,z3⟩:=okT_size h.t
 obtain ⟨t1,t2⟩:=to_N h hp.1
 have hfN:=(fr_N h hp.1).1
 have hn:(frP w.t p).toNat=n:=by rw [hf]; simp
 rw [hn] at hfN
 have hst:stA w.t n=false:=by rw [← hn]; exact hp.1.2.1
 have hbl:=h.bl
 have hbest:dA (bestL w (rootsL w) (distL w (rootsL w))) (n:Nat)=bestN w (rootsL w) (distL w (rootsL w)) n:=by
  rw [dA,Int.toNat_natCast,bestL,List.getElem?_map,List.getElem?_range (by omega),Option.map_some,bestAt,if_neg (by rw [hst]; simp)]; rfl
 have hda:=distA h n hfN
 have hdb:=distA h (toP w.t p).toNat t1
 rw [← t2] at hdb
 have hc1:((p:Int)=dA (bestL w (rootsL w) (distL w (rootsL w))) (n:Nat))↔(rootF w n≠n∧p=(netX w).bst n):=by
  rw [hbest]
  by_cases hr:rootF w n=n
  ·have:bestN w (rootsL w) (distL w (rootsL w)) n = -1:=by rw [bestN,if_pos]; rw [rootsA h n hfN,hr]
   rw [this]
   exact ⟨fun h=>by omega,fun h=>absurd hr h.1⟩
  ·obtain ⟨b,b1,_⟩:=best_spec h hfN hst hr
   rw [bestN_of b1,b1]
   exact ⟨fun h=>⟨hr,by omega⟩,fun h=>by rw [h.2]⟩
 have hc2:lt6 (ownG w (distL w (rootsL w)) n p) (offG w (distL w (rootsL w)) p 0) < 0↔lx3 (distF w n) (kap w n) (p:Nat) (distF w (toP w.t p).toNat) (kap w (toP w.t p).toNat) (bk p:Nat):=by
  rw [ownG,offG,lt6_lx3 (by omega) (by omega),hda,hdb,Int.add_zero]
  unfold kap
  rw [← t2]
 have e:goalM (netX w) p=if rootF w n≠n∧p=(netX w).bst n then 1 else if lx3 (distF w n) (kap w n) (p:Nat) (distF w (toP w.t p).toNat) (kap w (toP w.t p).toNat) (bk p:Nat) then 2 else 3:=by
  show (if rootF w (frP w.t p).toNat≠(frP w.t p).toNat∧p=(netX w).bst (frP w.t p).toNat then (1:Int) else if lx3 (distF w (frP w.t p).toNat) (kap w (frP w.t p).toNat) (p:Nat) (distF w (toP w.t p).toNat) (kap w (toP w.t p).toNat) (bk p:Nat) then 2 else 3)=_
  rw [hn]
 rw [e,goalW,goalG]
 simp only [hc1,hc2]
end
end Go.Proofs.Ytbibdnlbpjnieaa
namespace Go.Proofs.Ytbibdnlbpjnieaa
open Go Go.Abs
def msgH (h:Hd):Msg:=⟨16*h.a+h.b,h.c,16*h.d+h.e,h.f,h.g⟩
def hM (h:Hd):Option Msg:=if h.is=true then some (msgH h) else none
section
variable {w:Nw} (h:VN w)
include h
end
def runW (w:Nw):Nat→Nw
 | 0=>w
 | T+1=>rndW (runW w T)
theorem VN.run {w:Nw} (h:VN w) (T:Nat):VN (runW w T):=by
 induction T with
 | zero=>exact h
 | succ T ih=>exact ih.rnd
end Go.Proofs.Ytbibdnlbpjnieaa
