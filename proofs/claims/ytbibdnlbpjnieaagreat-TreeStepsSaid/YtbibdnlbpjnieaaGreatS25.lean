/- Part 25 of the proof of TreeSteps. -/
import Derived.Test.YtbibdnlbpjnieaaGreatS24
set_option linter.all false
set_option maxRecDepth 100000
set_option maxHeartbeats 4000000
namespace Go.Proofs.YtbibdnlbpjnieaaGreat
open Go Go.Abs
def offG (w:Nw) (D:List Int) (p:Nat) (x:Int):Hd:=⟨true,0,0,dA D (toP w.t p)+x,prA w (toP w.t p).toNat,toP w.t p,(bk p:Nat),0⟩
def ownG (w:Nw) (D:List Int) (n p:Nat):Hd:=⟨true,0,0,dA D (n:Nat),prA w n,(n:Nat),(p:Nat),0⟩
def goalG (w:Nw) (D:List Int) (bs:List Int) (n p:Nat):Int:=if (p:Int)=dA bs (n:Nat) then 1 else if lt6 (ownG w D n p) (offG w D p 0) < 0 then 2 else 3
abbrev gcap1 (f:Fl) (w:Nw) (c:Bool) (D:List Int):List T:=[.ip (nwC f w),.ip [.sl c 1 (D.map I)]]
section
variable (f:Fl) (w:Nw) (c:Bool) (D:List Int) (hok:okT w.t=true) (hpl:(w.prios.length:Int)=w.t.nodes) (hD:D.length=w.t.nodes.toNat) (hb:∀ x∈D,0≤x∧x≤12000)
include hok hpl hD hb
theorem q6J (p:Nat) (x:Int) (hp:p < 2*w.t.links.length) (hx:0≤x∧x≤1000):ans Tryz.prog pol 90 ([I (p:Nat),I x]++gcap1 f w c D)=some (rkT (offG w D p x)):=by
 obtain ⟨z1,z2,z3⟩:=q06 hok
 have k1:=q1u f w p hok hp
 obtain ⟨m1,m2⟩:=q1b hok hp
 have hda:=dA_bd hb (toP w.t p)
 simp only [offG]
 generalize hT:toP w.t p=t at *
 obtain ⟨t,rfl⟩:∃ m:Nat,t=(m:Nat):=⟨t.toNat,by omega⟩
 have k2:=q1a f w t (by omega)
 have gd:(D.map I)[t]? = some (I (dA D (t:Nat))):=by simp [dA,show t < D.length by omega]
 have hDl:t < D.length:=by omega
 have v1:IntKind.i64.wrap (dA D (t:Nat)+x)=dA D (t:Nat)+x:=q09 (by omega) (by omega)
 have hxr:=xor1 p (by omega)
 have hc2:(T.sl c 1 (D.map I)).cells=[T.sl c 1 (D.map I)]:=rfl
 simp only [Int.toNat_natCast]
 simp only [List.cons_append,List.nil_append]
 refine q00 1 1 il90_eq (Nat.le_of_ble_eq_true rfl) ?_
 (repeat' first|simp only [il90c,go_sem,k1,k2,gd,hDl,v1,hxr,hc2]|with_reducible refine wX fun _=>?_|((with_reducible refine wY ?_ ?_); rfl)|fail)
theorem qir (c':Bool) (bs:List Int) (hbs:bs.length=w.t.nodes.toNat) (n p:Nat) (hn:(n:Int) < w.t.nodes) (hp:p < 2*w.t.links.length) :
  ans Tryz.prog pol 92 [I (n:Nat),I (p:Nat),.ip [.sl c 1 (D.map I)],.ip (nwC f w),.ip [.sl c' 1 (bs.map I)],.ip [.fn (.func 90) [] (gcap1 f w c D)]]=some (I (goalG w D bs n p)):=by
 obtain ⟨z1,z2,z3⟩:=q06 hok
 have k1:=q1a f w n (by omega)
 have k2:=q6J f w c D hok hpl hD hb p 0 hp (by omega)
 have k3:=q1z (ownG w D n p) (offG w D p 0)
 have gd:(D.map I)[n]? = some (I (dA D (n:Nat))):=by simp [dA,show n < D.length by omega]
 have gb:(bs.map I)[n]? = some (I (dA bs (n:Nat))):=by simp [dA,show n < bs.length by omega]
 have hDl:n < D.length:=by omega
 have hbl:n < bs.length:=by omega
 have hc2:(T.sl c 1 (D.map I)).cells=[T.sl c 1 (D.map I)]:=rfl
 have hc3:(T.sl c' 1 (bs.map I)).cells=[T.sl c' 1 (bs.map I)]:=rfl
 have hc4:(T.fn (.func 90) [] (gcap1 f w c D)).cells=[.fn (.func 90) [] (gcap1 f w c D)]:=rfl
 simp only [gcap1,List.cons_append,List.nil_append] at k2 hc4 ⊢
 unfold goalG
 by_cases q1:(p:Int)=dA bs (n:Nat)
 ·rw [if_pos q1]
  have d1:=decide_eq_true q1
  refine q00 1 1 il92_eq (Nat.le_of_ble_eq_true rfl) ?_
  (repeat' first|simp only [il92c,go_sem,k1,k2,gd,gb,hDl,hbl,hc2,hc3,hc4,d1]|with_reducible refine wX fun _=>?_|((with_reducible refine wY ?_ ?_); rfl)|fail)
 ·rw [if_neg q1]
  have d1:=decide_eq_false q1
  by_cases q2:lt6 (ownG w D n p) (offG w D p 0) < 0
  ·rw [if_pos q2]
   simp only [ownG] at k3 q2
   have d2:=decide_eq_true q2
   refine q00 1 1 il92_eq (Nat.le_of_ble_eq_true rfl) ?_
   (repeat' first|simp only [il92c,go_sem,k1,k2,k3,gd,gb,hDl,hbl,hc2,hc3,hc4,d1,d2]|with_reducible refine wX fun _=>?_|((with_reducible refine wY ?_ ?_); rfl)|fail)
  ·rw [if_neg q2]
   simp only [ownG] at k3 q2
   have d2:=decide_eq_false q2
   refine q00 1 1 il92_eq (Nat.le_of_ble_eq_true rfl) ?_
   (repeat' first|simp only [il92c,go_sem,k1,k2,k3,gd,gb,hDl,hbl,hc2,hc3,hc4,d1,d2]|with_reducible refine wX fun _=>?_|((with_reducible refine wY ?_ ?_); rfl)|fail)
end
end Go.Proofs.YtbibdnlbpjnieaaGreat
namespace Go.Proofs.YtbibdnlbpjnieaaGreat
open Go Go.Abs
def glC (w:Nw) (p:Nat):Prop:=dnA w (p / 2)=true∨stA w.t (toP w.t p).toNat=true
instance (w:Nw) (p:Nat):Decidable (glC w p):=inferInstanceAs (Decidable (_∨_))
def glT (w:Nw) (D:List Int) (s:(Int × Hd) × Nat) (p:Nat):(Int × Hd) × Nat:=if glC w p then s else if s.1.1 < 0∨lt6 (offG w D p (perP w.t p)) s.1.2 < 0 then (((p:Int),offG w D p (perP w.t p)),1) else s
def glS (w:Nw) (D:List Int) (s:Int × Hd) (p:Nat):Int × Hd:=if glC w p then s else if s.1 < 0∨lt6 (offG w D p (perP w.t p)) s.2 < 0 then ((p:Int),offG w D p (perP w.t p)) else s
def bestN (w:Nw) (R:List (Int × Int)) (D:List Int) (n:Nat):Int:=if rA R (n:Nat)=(prA w n,((n:Nat):Int)) then -1 else ((portsL w.t n).foldl (glS w D) (-1,zH)).1
theorem qis (w:Nw) (D:List Int) (s:(Int × Hd) × Nat) (p:Nat):(glT w D s p).1=glS w D s.1 p:=by
 unfold glT glS
 split
 ·rfl
 ·split <;> rfl
theorem qit {w:Nw} {D:List Int} {s:(Int × Hd) × Nat} (h:s.2≤1) (p:Nat):(glT w D s p).2≤1:=by
 unfold glT
 split
 ·exact h
 ·split
  ·exact Nat.le_refl _
  ·exact h
section
variable (f:Fl) (w:Nw) (R:List (Int × Int)) (D:List Int)
noncomputable def lpGl (rf:Code × Code) (E:FEnv) (busy:Bool):AObj:=.loop 45 (lpEnv 94 (tidyF (some [1,3,5,6]) E)) [25,26] rf.1 rf.2 busy none
noncomputable def hpGl (f:Fl) (w:Nw) (R:List (Int × Int)) (D:List Int) (rf:Code × Code) (E:FEnv) (busy:Bool) (s:List Int × Nat):Heap :=
 [.row 1 [.t (.sl true 2 (R.map encP))] 1,.gone,.row 1 ((s.1.map I).map .t) s.2,.row 1 [.ms 2 w.t.nodes.toNat 0 w.t.nodes.toNat 1 true] 1,.row 1 [.t (.fn (.func 90) [] (gcap1 f w true D))] 1,lpGl rf E busy]
def glE (f:Fl) (w:Nw) (E:FEnv):Prop:=E 1=.t (.ip (nwC f w))∧E 3=.ref 0 1 0 0∧E 5=.ref 3 1 0 0∧E 6=.ref 4 1 0 0
theorem q6K (rf:Code × Code) (E:FEnv) (hE:glE f w E) (busy:Bool) (h:Heap) (q:Nat) (hq:6≤q):frzObj h (fromB q) (lpGl rf E busy)=some (lpGl rf E busy):=by
 obtain ⟨h1,h3,h5,h6⟩:=hE
 have f0:decide (q≤0)=false:=decide_eq_false (by omega)
 have f3:decide (q≤3)=false:=decide_eq_false (by omega)
 have f4:decide (q≤4)=false:=decide_eq_false (by omega)
 rw [lpGl,q0y]
 simp only [go_sem,h1,h3,h5,h6,f0,f3,f4]
theorem qiu (rf:Code × Code) (E:FEnv) (hE:glE f w E) (busy:Bool) (s:List Int × Nat) (h:Heap) (q:Nat) (hq:6≤q):mapO (frzObj h (fromB q)) (hpGl f w R D rf E busy s)=some (hpGl f w R D rf E busy s):=by
 have a1:avoidAll (fromB q) [.ms 2 w.t.nodes.toNat 0 w.t.nodes.toNat 1 true]=true:=by simp [avoidAll,avoid,fromB]; omega
 have a2:∀ x:T,avoidAll (fromB q) [.t x]=true:=fun x=>by simp [avoidAll,avoid]
 have a3:frzObj h (fromB q) .gone=some .gone:=rfl
 simp only [hpGl,mapO,q6K f w rf E hE busy h q hq,q08,q0e a1,q0e (a2 _),a3]
variable (hok:okT w.t=true) (hbl:(w.bs.length:Int)=w.t.nodes) (hpl:(w.prios.length:Int)=w.t.nodes) (hdl:w.down.length=w.t.links.length) (hD:D.length=w.t.nodes.toNat) (hb:∀ x∈D,0≤x∧x≤12000)
include hok hbl hpl hdl hD hb
theorem qiv (rf:Code × Code) (E:FEnv) (hE:glE f w E) (x:List T) (n:Nat) (hn:n < w.bs.length)
  (L:List Int) (hL:L.length=w.t.nodes.toNat) (dd nn:Nat) (hnn':200 < nn) (Q:Xit→FEnv→Heap→Prop) (e:FEnv)
  (he:e 1=.t (.ip (nwC f w))∧e 5=.ref 3 1 0 0∧e 6=.ref 4 1 0 0∧e 7=.t (I (n:Nat))∧e 8=.ref 7 1 0 0∧e 40=.t (.sl false 1 (((portsL w.t n).map ofN).map I))∧e 41=.t (I ((portsL w.t n).length:Nat))∧e 42=.t (I 0))
  (hR:∀ e mr h,mr≤1→Q (.exit 2) e (hpGl f w R D rf E true (L.set n ((portsL w.t n).foldl (glS w D) (-1,zH)).1,w.t.nodes.toNat)++[.row 5 [.t (.agg x)] 1,.row 6 [.t (rkT h)] mr])) :
  wpIter 8 (some [1,5,6,7,8,40,41,42]) (wc Tryz.prog pol (ans Tryz.prog pol) (inl Tryz.prog pol (ans Tryz.prog pol) nn dd) nn 45 il45l0) Q nn e (hpGl f w R D rf E true (L.set n (-1),w.t.nodes.toNat)++[.row 5 [.t (.agg x)] 1,.row 6 [.t (rkT zH)] 0]):=by
 obtain ⟨z1,z2,z3⟩:=q06 hok
 have hpl2:=q1y w.t n
 refine q04 (portsL w.t n) (fun p=>I (ofN p)) (step:=fun _ p s=>.go (glT w D s p)) (fin:=id)
  (St:=fun i s e h=>(e 1=.t (.ip (nwC f w))∧e 5=.ref 3 1 0 0∧e 6=.ref 4 1 0 0∧e 7=.t (I (n:Nat))∧e 8=.ref 7 1 0 0∧e 40=.t (.sl false 1 (((portsL w.t n).map ofN).map I))∧e 41=.t (I ((portsL w.t n).length:Nat))∧e 42=.t (I (i:Nat)))∧s.2≤1∧h=hpGl f w R D rf E true (L.set n s.1.1,w.t.nodes.toNat)++[.row 5 [.t (.agg x)] 1,.row 6 [.t (rkT s.1.2)] s.2])
  (Ex:=fun s x' e h=>x'=.exit 2∧s.2≤1∧h=hpGl f w R D rf E true (L.set n s.1.1,w.t.nodes.toNat)++[.row 5 [.t (.agg x)] 1,.row 6 [.t (rkT s.1.2)] s.2]) (s:=((-1,zH),0)) (by omega) ?_ ?_ (by omega) ⟨he,Nat.zero_le _,rfl⟩ ?_
 ·intro i p ss e hp Y R' hm hi hx hget hlt hw ⟨hs',hI,hhp⟩ hk
  subst hhp
  simp only [q01] at hk
  have hI2:=qit (w:=w) (D:=D) hI p
  have hplt:p < 2*w.t.links.length:=q1x hm
  have hget':(((portsL w.t n).map ofN).map I)[i]? = some (I (ofN p)):=by simp [hx]
  have k2:=q1u f w p hok hplt
  obtain ⟨g1,q1⟩:=q0B w.t z2 (q1b hok hplt)
  have hj:p / 2 < w.down.length:=by omega
  have g2:(w.down.map B)[p / 2]? = some (B (dnA w (p / 2))):=by simp [dnA,hj]
  have v2:IntKind.i64.wrap (Int.tdiv (p:Nat) 2)=((p / 2:Nat):Int):=by rw [tdiv2]; exact q09 (by omega) (by omega)
  obtain ⟨⟨v,m⟩,mr⟩:=ss
  dsimp only at hI hI2 hk
  have hsl:(((L.set n v).map I).map AV.t).length=w.t.nodes.toNat:=by simp [hL]
  have gx:(((L.set n v).map I).map AV.t)[n]? = some (.t (I v)):=q0c (enc:=I) (List.getElem?_set_self (by omega))
  have hset:=map_set (enc:=I) (l:=L.set n v) (i:=n) (x:=(p:Int))
  rw [List.set_set] at hset
  have hnl:n < w.t.nodes.toNat:=by omega
  have hav:∀ (q:Nat→Bool) (y:T),avoidAll q ((((L.set n v).map I).map AV.t).set n (.t y))=true:=fun q y=>by rw [← List.map_set,q0i]
  have fzl:∀ hx:Heap,frzObj hx (fromB 8) (lpGl rf E true)=some (lpGl rf E true):=fun hx=>q6K f w rf E hE true hx 8 (by omega)
  have hper:=q2y hok hplt
  have k3:=q6J f w true D hok hpl hD hb p (perP w.t p) hplt (by omega)
  have glk:(w.t.links.map encK)[p / 2]? = some (lkT (lnk w.t (p / 2))):=by simp [lnk,encK,show p / 2 < w.t.links.length by omega]
  have hpp:(lnk w.t (p / 2)).per=perP w.t p:=rfl
  have k4:=q1z (offG w D p (perP w.t p)) m
  have hc4:(T.fn (.func 90) [] (gcap1 f w true D)).cells=[.fn (.func 90) [] (gcap1 f w true D)]:=rfl
  simp only [gcap1,List.cons_append,List.nil_append] at k3 hc4
  simp only [glT,hpGl,gcap1,List.cons_append,List.nil_append] at hk hI2 ⊢
  cases hdn:dnA w (p / 2) with
  | true =>
   rw [hdn] at g2
   rw [if_pos (show glC w p from .inl hdn)] at hk hI2
   (repeat' first|simp only [il45l0_go,il45l0b,go_sem,hs',hget',hlt,hw,ofN,v2,g2,q08,fzl]|with_reducible refine wX fun _=>?_|((with_reducible refine wY ?_ ?_); rfl)|fail)
   all_goals (refine hk _ _ ⟨?_,hI2,?_⟩ <;> simp only [go_sem,hs',hw])
  | false =>
   rw [hdn] at g2
   cases hst:stA w.t (toP w.t p).toNat with
   | true =>
    rw [hst] at g1
    rw [if_pos (show glC w p from .inr hst)] at hk hI2
    (repeat' first|simp only [il45l0_go,il45l0b,go_sem,hs',hget',hlt,hw,ofN,v2,g1,g2,q1,k2,q08,fzl]|with_reducible refine wX fun _=>?_|((with_reducible refine wY ?_ ?_); rfl)|fail)
    all_goals (refine hk _ _ ⟨?_,hI2,?_⟩ <;> simp only [go_sem,hs',hw])
   | false =>
    rw [hst] at g1
    rw [if_neg (show ¬ glC w p by simp [glC,hdn,hst])] at hk hI2
    generalize hoff:offG w D p (perP w.t p)=o at *
    by_cases hv:v < 0
    ·have d1:=decide_eq_true hv
     rw [if_pos (.inl hv)] at hk hI2
     rw [← hset] at hk
     (repeat' first|simp only [il45l0_go,il45l0b,go_sem,hs',hget',hlt,hw,ofN,v2,g1,g2,q1,k2,k3,glk,hpp,hc4,gx,hsl,hnl,hav,d1,hI,q08,fzl]|with_reducible refine wX fun _=>?_|((with_reducible refine wY ?_ ?_); rfl)|fail)
     all_goals (refine hk _ _ ⟨?_,hI2,?_⟩ <;> simp only [go_sem,hs',hw])
    ·have d1:=decide_eq_false hv
     by_cases hc:lt6 o m < 0
     ·have d2:=decide_eq_true hc
      rw [if_pos (.inr hc)] at hk hI2
      rw [← hset] at hk
      (repeat' first|simp only [il45l0_go,il45l0b,go_sem,hs',hget',hlt,hw,ofN,v2,g1,g2,q1,k2,k3,k4,glk,hpp,hc4,gx,hsl,hnl,hav,d1,d2,hI,q08,fzl]|with_reducible refine wX fun _=>?_|((with_reducible refine wY ?_ ?_); rfl)|fail)
      all_goals (refine hk _ _ ⟨?_,hI2,?_⟩ <;> simp only [go_sem,hs',hw])
     ·have d2:=decide_eq_false hc
      rw [if_neg (by rintro (h|h); exact hv h; exact hc h)] at hk hI2
      (repeat' first|simp only [il45l0_go,il45l0b,go_sem,hs',hget',hlt,hw,ofN,v2,g1,g2,q1,k2,k3,k4,glk,hpp,hc4,gx,hsl,hnl,hav,d1,d2,hI,q08,fzl]|with_reducible refine wX fun _=>?_|((with_reducible refine wY ?_ ?_); rfl)|fail)
      all_goals (refine hk _ _ ⟨?_,hI2,?_⟩ <;> simp only [go_sem,hs',hw])
 ·intro s e h Y R' hlt ⟨hs',hI,hh⟩ hk
  subst hh
  (repeat' first|simp only [il45l0_go,il45l0b,go_sem,hs',hlt]|with_reducible refine wX fun _=>?_|((with_reducible refine wY ?_ ?_); rfl)|fail)
  all_goals (refine hk _ _ _ ⟨rfl,hI,rfl⟩)
 ·intro x e h ⟨h2,h1,h3⟩
  have hf:∀ (l:List Nat) (i:Nat) (s:(Int × Hd) × Nat),foldC (ρ:=(Int × Hd) × Nat) (fun _ p s=>Ctl.go (glT w D s p)) id i l s=l.foldl (glT w D) s:=by
   intro l
   induction l with
   | nil=>intro i s; rfl
   | cons x l ih =>
    intro i s
    rw [q0a (s':=glT w D s x) rfl,ih,List.foldl_cons]
  rw [hf] at h1 h3
  rw [q0C (glT w D) (glS w D) (qis w D)] at h3
  subst h2 h3
  exact hR _ _ _ h1
end
end Go.Proofs.YtbibdnlbpjnieaaGreat
namespace Go.Proofs.YtbibdnlbpjnieaaGreat
open Go Go.Abs
theorem qiw (f:Fl) (w:Nw) (R:List (Int × Int)) (D:List Int) (hok:okT w.t=true) (hbl:(w.bs.length:Int)=w.t.nodes) (hpl:(w.prios.length:Int)=w.t.nodes) (hdl:w.down.length=w.t.links.length) (hD:D.length=w.t.nodes.toNat) (hb:∀ x∈D,0≤x∧x≤12000) (hRl:R.length=w.t.nodes.toNat)
  (rf:Code × Code) (hrf:rfOf Tryz.prog 45 0=rf) (E:FEnv) (hE:glE f w E) (s:List Int × Nat) (hs:s.1.length=w.t.nodes.toNat∧s.2≤w.t.nodes.toNat) (n:Nat) (x:List T) (hn:n < w.bs.length) (dd nn:Nat) (hnn:200 < nn) (Q:AV→Heap→Prop)
  (hQ:∀ X',Q (.t (B true)) (hpGl f w R D rf E false (s.1.set n (bestN w R D n),w.t.nodes.toNat)++[.row 5 [.t (.agg x)] 1]++X')) :
  oB (inl Tryz.prog pol (ans Tryz.prog pol) nn (dd+1) (.yl 5) [.t (I (n:Nat)),.t (.agg x)] (hpGl f w R D rf E false s++[.row 5 [.t (.agg x)] 1])) Q:=by
 subst hrf
 obtain ⟨E1,E3,E5,E6⟩:=id hE
 obtain ⟨z1,z2,z3⟩:=q06 hok
 have k1:=q2o f w n hok (by omega)
 have k2:=q1a f w n (by omega)
 obtain ⟨L,mr⟩:=s
 obtain ⟨hL,hmr⟩:=hs
 dsimp only at hL hmr hQ ⊢
 have hnl:n < w.t.nodes.toNat:=by omega
 have hsl:((L.map I).map AV.t).length=w.t.nodes.toNat:=by simp [hL]
 obtain ⟨y,hy⟩:∃ y,L[n]? = some y:=⟨L[n]'(by omega),by simp [show n < L.length by omega]⟩
 have gx:((L.map I).map AV.t)[n]? = some (.t (I y)):=q0c (enc:=I) hy
 have hset:=map_set (enc:=I) (l:=L) (i:=n) (x:=(-1:Int))
 have hav:∀ (q:Nat→Bool) (y:T),avoidAll q (((L.map I).map AV.t).set n (.t y))=true:=fun q y=>by rw [← List.map_set,q0i]
 obtain ⟨z,hz⟩:∃ z,R[n]? = some z:=⟨R[n]'(by omega),by simp [show n < R.length by omega]⟩
 have hra:rA R ((n:Nat):Int)=z:=by simp [rA,hz]
 have gR:(R.map encP)[n]? = some (.agg [I z.1,I z.2]):=by simp [hz,encP]
 have hRn:n < R.length:=by omega
 have hcz:(T.agg [I z.1,I z.2]).cells=[I z.1,I z.2]:=rfl
 have hcR:(T.sl true 2 (R.map encP)).cells=[T.sl true 2 (R.map encP)]:=rfl
 have hlen2:((portsL w.t n).map ofN).length=(portsL w.t n).length:=by simp
 have hbest:bestN w R D n=if z=(prA w n,((n:Nat):Int)) then -1 else ((portsL w.t n).foldl (glS w D) (-1,zH)).1:=by rw [bestN,hra]
 rw [hbest] at hQ
 have hR:=fun (Q:Xit→FEnv→Heap→Prop) (e:FEnv) he hR=>qiv f w R D hok hbl hpl hdl hD hb (rfOf Tryz.prog 45 0) E hE x n hn L hL dd nn hnn Q e he hR
 have hlb:∀ s:List Int × Nat,hpGl f w R D (rfOf Tryz.prog 45 0) E false s=[.row 1 [.t (.sl true 2 (R.map encP))] 1,.gone,.row 1 ((s.1.map I).map .t) s.2,.row 1 [.ms 2 w.t.nodes.toNat 0 w.t.nodes.toNat 1 true] 1,.row 1 [.t (.fn (.func 90) [] (gcap1 f w true D))] 1,.loop 45 (lpEnv 94 (tidyF (some [1,3,5,6]) E)) [25,26] (rfOf Tryz.prog 45 0).1 (rfOf Tryz.prog 45 0).2 false none]:=fun s=>rfl
 have hlt:∀ s:List Int × Nat,hpGl f w R D (rfOf Tryz.prog 45 0) E true s=[.row 1 [.t (.sl true 2 (R.map encP))] 1,.gone,.row 1 ((s.1.map I).map .t) s.2,.row 1 [.ms 2 w.t.nodes.toNat 0 w.t.nodes.toNat 1 true] 1,.row 1 [.t (.fn (.func 90) [] (gcap1 f w true D))] 1,.loop 45 (lpEnv 94 (tidyF (some [1,3,5,6]) E)) [25,26] (rfOf Tryz.prog 45 0).1 (rfOf Tryz.prog 45 0).2 true none]:=fun s=>rfl
 simp only [hlb,hlt,zH,gcap1,List.cons_append,List.nil_append] at hR hQ ⊢
 rw [← hset] at hR
 by_cases hq:z.1=prA w n∧z.2=((n:Nat):Int)
 ·have d1:=decide_eq_true hq
  rw [if_pos (Prod.ext hq.1 hq.2),← hset] at hQ
  with_reducible refine oB_yl (E:=tidyF (some [1,3,5,6]) E) rfl rfl rfl il45r0a_eq il45r0b_eq ?_
  (repeat' first|simp only [il45r0a,il45r0b,go_sem,E1,E3,E5,E6,k2,gx,hsl,hnl,hmr,hav,gR,hRn,hcz,hcR,d1]|with_reducible refine wX fun _=>?_|((with_reducible refine wY ?_ ?_); rfl)|fail)
  all_goals exact hQ _
 ·have d1:=decide_eq_false hq
  rw [if_neg (fun h=>hq (by rw [h]; exact ⟨rfl,rfl⟩))] at hQ
  generalize ((portsL w.t n).foldl (glS w D) (-1,zH)).1=V at *
  with_reducible refine oB_yl (E:=tidyF (some [1,3,5,6]) E) rfl rfl rfl il45r0a_eq il45r0b_eq ?_
  (repeat' first|simp only [il45r0a,il45r0b,go_sem,E1,E3,E5,E6,k1,k2,gx,hsl,hnl,hmr,hav,gR,hRn,hcz,hcR,d1,hlen2]|with_reducible refine wX fun _=>?_|((with_reducible refine wY ?_ ?_); rfl)|fail)
  with_reducible refine hR _ _ ?_ ?_
  ·simp only [go_sem,E1,E3,E5,E6,hlen2]
  intro e mr h hmr2
  all_goals exact hQ _
end Go.Proofs.YtbibdnlbpjnieaaGreat
namespace Go.Proofs.YtbibdnlbpjnieaaGreat
open Go Go.Abs
def bestAt (w:Nw) (R:List (Int × Int)) (D:List Int) (n:Nat):Int:=if stA w.t n=true then 0 else bestN w R D n
def bestL (w:Nw) (R:List (Int × Int)) (D:List Int):List Int:=(List.range w.bs.length).map (bestAt w R D)
theorem qix (w:Nw) (R:List (Int × Int)):(rtRoundL w R).length=R.length:=by
 unfold rtRoundL
 generalize w.t.links.length=k
 induction k with
 | zero=>rfl
 | succ k ih =>
  rw [List.range_succ,List.foldl_append,List.foldl_cons,List.foldl_nil]
  generalize (List.range k).foldl (upS w (rtS1 w)) R=S at *
  unfold upS
  split
  ·simp [rtS1,ih]
  ·exact ih
theorem qiy (w:Nw):(rootsL w).length=w.t.nodes.toNat:=by
 unfold rootsL
 generalize hN:w.t.nodes.toNat=N
 have:∀ k,((List.range k).foldl (fun R _=>rtRoundL w R) (rt0 w)).length=N:=by
  intro k
  induction k with
  | zero=>simp [rt0,hN]
  | succ k ih=>rw [List.range_succ,List.foldl_append,List.foldl_cons,List.foldl_nil,qix,ih]
 exact this N
theorem q6L {w:Nw} (hok:okT w.t=true) (R:List (Int × Int)):(distL w R).length=w.t.nodes.toNat∧∀ x∈distL w R,0≤x∧x≤12000:=by
 have h0:dsI w (ds0 w R,0):=by
  refine ⟨⟨by simp [ds0],Nat.zero_le _⟩,fun x hx=>?_⟩
  simp only [ds0,List.mem_map] at hx
  obtain ⟨m,_,rfl⟩:=hx
  split <;> omega
 have:∀ k,dsI w ((List.range k).foldl (fun s _=>dsRound w s) (ds0 w R,0)):=by
  intro k
  induction k with
  | zero=>exact h0
  | succ k ih=>rw [List.range_succ,List.foldl_append,List.foldl_cons,List.foldl_nil]; exact q6I hok ih
 have h:=this w.t.nodes.toNat
 have e:((List.range w.t.nodes.toNat).foldl (fun s _=>dsRound w s) (ds0 w R,0)).1=distL w R:=q0C (fun s _=>dsRound w s) (fun D _=>dsRoundL w D) (fun s _=>q6H w s) _ _
 obtain ⟨⟨h1,h2⟩,h3⟩:=h
 rw [e] at h1 h3
 exact ⟨h1,h3⟩
theorem q6M {h:Heap} {o d:Nat} {x:AV} {t:T} (ho:h[o]? = some (.row 1 [x] 1)) (hx:x.cells=[x]) (hs:snap h allObj d x=some t):snap h allObj (d+1) (.ref o 1 0 0)=some (.ip [t]):=by
 rw [q5G,qbq ho (Nat.le_refl _) (by omega) (by simp)]
 simp [q5F,hx,mapO,hs,snR.snO]
theorem qiz {h:Heap} {d:Nat} {g:Fn} {b:List AV} {ts:List T} (hs:mapO (snap h allObj d) b=some ts):snap h allObj (d+1) (.fn g [] b)=some (.fn g [] ts):=by
 simp only [snap,mapO,hs]
theorem qiA (f:Fl) (w:Nw) (hok:okT w.t=true) (hbl:(w.bs.length:Int)=w.t.nodes) (hpl:(w.prios.length:Int)=w.t.nodes) (hdl:w.down.length=w.t.links.length):ans Tryz.prog pol 45 [nwT f w] =
  some (.fn (.func 92) [] [.ip [.sl true 1 ((distL w (rootsL w)).map I)],.ip (nwC f w),.ip [.sl true 1 ((bestL w (rootsL w) (distL w (rootsL w))).map I)],.ip [.fn (.func 90) [] (gcap1 f w true (distL w (rootsL w)))]]):=by
 obtain ⟨z1,z2,z3⟩:=q06 hok
 have kr:=qim f w hok hpl hdl
 have hRl:=qiy w
 have kd:=qiq f true w (rootsL w) hok hpl hdl hRl
 obtain ⟨hDl,hDb⟩:=q6L hok (rootsL w)
 generalize hR:rootsL w=R at *
 generalize hD:distL w R=D at *
 have hNb:w.t.nodes.toNat=w.bs.length:=by omega
 have hNn:w.t.nodes=(w.bs.length:Nat):=by omega
 have hroom:8*w.bs.length≤roomB:=by rw [Nat.mul_comm]; exact q07 (by omega) (by omega)
 have hbig:w.bs.length≤9223372036854775807:=by omega
 have hb100:w.bs.length≤100:=by omega
 obtain ⟨nn,h2000⟩:∃ nn,2000 < nn:=⟨2001,by omega⟩
 have hn2:200 < nn:=by omega
 have asn:asNat (.t (I w.t.nodes))=some w.bs.length:=by rw [hNn]; rfl
 refine q00 nn 6 il45_eq (Nat.le_of_ble_eq_true rfl) ?_
 simp only [il45c]
 generalize hrf:rfOf Tryz.prog 45 0=rf
 have hrep:List.replicate w.bs.length (AV.t (T.sc (Value.int IntKind.i64 0)))=((List.replicate w.bs.length (0:Int)).map I).map .t:=by simp
 (repeat' first|simp only [List.cons_append,List.nil_append,go_sem,hroom,hbig,asn,kr,kd,hrep,q08]|with_reducible refine wX fun _=>?_|((with_reducible refine wY ?_ ?_); rfl)|((with_reducible refine q0b il31_eq ?_ ?_); exact Nat.le_of_ble_eq_true rfl; simp only [il31c])|fail)
 have key:∀ E:FEnv,([.row 1 [.t (.sl true 2 (R.map encP))] 1,.gone,.row 1 (((List.replicate w.bs.length (0:Int)).map I).map .t) 0,.row 1 [.ms 2 w.bs.length 0 w.bs.length 1 true] 1,.row 1 [.t (.fn (.func 90) [] (gcap1 f w true D))] 1,.loop 45 (lpEnv 94 (tidyF (some [1,3,5,6]) E)) [25,26] rf.1 rf.2 false none]:Heap)=hpGl f w R D rf E false (List.replicate w.bs.length 0,0):=fun E=>by rw [← hNb]; rfl
 simp only [gcap1] at key
 rw [key]
 have h56:5 < 6:=by omega
 have hI0:(List.replicate w.bs.length (0:Int),0).1=fillL (bestAt w R D) 0 w.bs.length 0∧(List.replicate w.bs.length (0:Int),0).2≤w.bs.length:=⟨(q17 _ _ _).symm,Nat.zero_le _⟩
 have hstep:∀ (n:Nat) (s:List Int × Nat),n < w.bs.length→(s.1=fillL (bestAt w R D) 0 w.bs.length n∧s.2≤w.bs.length)→((stS w.t (fun (s:List Int × Nat) n=>(s.1.set n (bestN w R D n),w.bs.length)) s n).1=fillL (bestAt w R D) 0 w.bs.length (n+1)∧(stS w.t (fun (s:List Int × Nat) n=>(s.1.set n (bestN w R D n),w.bs.length)) s n).2≤w.bs.length):=by
  intro n s hnb hI
  unfold stS
  by_cases hs:stA w.t n=true
  ·rw [if_pos hs,q2t hnb (by rw [bestAt,if_pos hs])]
   exact hI
  ·rw [if_neg hs]
   refine ⟨?_,Nat.le_refl _⟩
   show s.1.set n _=_
   rw [hI.1]
   exact q0Q hnb (by rw [bestAt,if_neg hs])
 with_reducible refine @q3y (List Int × Nat) (fun s=>hpGl f w R D rf _ false s) 6 (fun s=>rfl) (fun s n=>(s.1.set n (bestN w R D n),w.bs.length)) 5 nn 5 (fun n s=>s.1=fillL (bestAt w R D) 0 w.bs.length n∧s.2≤w.bs.length) w hstep ?_ h56 f z2 hbl hb100 ?_ (List.replicate w.bs.length 0,0) hI0 _ hn2 ?_
 ·intro s h q hq
  exact qiu f w R D rf _ (by simp only [go_sem,glE]) false s h q hq
 ·intro s n x Q hx hs hI hQ
  have hnl:n < w.bs.length:=(List.getElem?_eq_some_iff.1 hx).1
  have hI:s.1=fillL (bestAt w R D) 0 w.bs.length n∧s.2≤w.bs.length:=hI
  have hQ':∀ X',Q (.t (B true)) (hpGl f w R D rf _ false (s.1.set n (bestN w R D n),w.bs.length)++[.row 5 [.t (.agg (bxC x))] 1]++X'):=hQ
  have hl:s.1.length=w.bs.length:=by rw [hI.1]; exact q0X _ _ (Nat.le_of_lt hnl)
  have hy:=fun E hE=>@qiw f w R D hok hbl hpl hdl hDl hDb hRl rf hrf E hE s ⟨by omega,by omega⟩ n (bxC x) hnl 4 nn hn2 Q
  rw [hNb] at hy
  with_reducible exact hy _ (by simp only [go_sem,glE]) hQ'
 ·intro v
  have hfin:∀ k,k≤w.bs.length→((List.range k).foldl (stS w.t (fun (s:List Int × Nat) n=>(s.1.set n (bestN w R D n),w.bs.length))) (List.replicate w.bs.length 0,0)).1=fillL (bestAt w R D) 0 w.bs.length k∧((List.range k).foldl (stS w.t (fun (s:List Int × Nat) n=>(s.1.set n (bestN w R D n),w.bs.length))) (List.replicate w.bs.length 0,0)).2≤w.bs.length:=by
   intro k
   induction k with
   | zero=>intro _; exact hI0
   | succ k ih =>
    intro hk
    rw [List.range_succ,List.foldl_append,List.foldl_cons,List.foldl_nil]
    exact hstep k _ (by omega) (ih (by omega))
  obtain ⟨hf1,hf2⟩:=hfin w.bs.length (Nat.le_refl _)
  generalize (List.range w.bs.length).foldl _ _=s at *
  rw [q18] at hf1
  change rfEnd _ _ _ v (hpGl f w R D rf _ false s)
  have hbL:bestL w R D=s.1:=by rw [hf1]; rfl
  rw [hbL]
  have hl4:s.1.length=w.bs.length:=by rw [hf1]; simp
  have hl5:((s.1.map I).map AV.t).length=w.bs.length:=by simp [hl4]
  simp only [hpGl,lpGl,hNb,gcap1,List.cons_append,List.nil_append]
  (repeat' first|simp only [il45c,go_sem,q08,hf2,hl5]|with_reducible refine wX fun _=>?_|((with_reducible refine wY ?_ ?_); rfl)|fail)
  generalize hH:([AObj.row 1 [AV.t (T.sl true 2 (List.map encP R))] 1,AObj.gone,AObj.row 1 (List.map AV.t (List.map I s.fst)) s.snd,AObj.row 1 [AV.ms 2 w.bs.length 0 w.bs.length 1 true] 1,AObj.row 1 [AV.t (T.fn (Fn.func 90) [] [T.ip (nwC f w),T.ip [T.sl true 1 (List.map I D)]])] 1]:Heap)=H
  have e0:snap H allObj 18 (.ms 2 w.bs.length 0 w.bs.length 1 true)=some (.sl true 1 (s.1.map I)):=q6A (d:=16) rfl (by rw [← hH]; rfl) hf2 hl4.symm
  have e1:snap H allObj 19 (.ref 3 1 0 0)=some (.ip [.sl true 1 (s.1.map I)]):=q6M (by rw [← hH]; rfl) rfl e0
  have e2:snap H allObj 19 (.ref 4 1 0 0)=some (.ip [T.fn (Fn.func 90) [] [T.ip (nwC f w),T.ip [T.sl true 1 (List.map I D)]]]):=q6M (by rw [← hH]; rfl) rfl (sn_t)
  exact qiz (by simp only [mapO,sn_t,e1,e2])
end Go.Proofs.YtbibdnlbpjnieaaGreat
namespace Go.Proofs.YtbibdnlbpjnieaaGreat
open Go Go.Abs
def goalW (w:Nw) (n p:Nat):Int:=goalG w (distL w (rootsL w)) (bestL w (rootsL w) (distL w (rootsL w))) n p
theorem q6N (f:Fl) (w:Nw) (hz:zOk w) (hok:okN w=true):ans Tryz.prog pol 17 [nwT f w]=some (.tup [.sl true 1 ((asL w (goalW w)).map I),I 0]):=by
 have hO:=q0I hok hz
 obtain ⟨z1,z2,z3⟩:=q06 hO.t
 have hpl:=q0A hO.rank
 have hbl:=hO.bl
 have k1:=q0F f w hz (by omega) (by omega)
 rw [if_pos hok] at k1
 have kg:=qiA f w hO.t hbl hpl hO.dl
 obtain ⟨hDl,hDb⟩:=q6L hO.t (rootsL w)
 have hbL:(bestL w (rootsL w) (distL w (rootsL w))).length=w.t.nodes.toNat:=by simp [bestL]; omega
 have k2:=q6z f w 92 _ (goalW w) hO.t hbl hO.dl rfl rfl (fun n p hn hs hp _=>qir f w true (distL w (rootsL w)) hO.t hpl hDl hDb true (bestL w (rootsL w) (distL w (rootsL w))) hbL n p (by omega) (q1c hp))
 refine q00 2000 5 il17_eq (Nat.le_of_ble_eq_true rfl) ?_
 simp only [il17c]
 (repeat' first|simp only [List.cons_append,List.nil_append,go_sem,k1,kg,k2]|with_reducible refine wX fun _=>?_|((with_reducible refine wY ?_ ?_); rfl)|fail)
end Go.Proofs.YtbibdnlbpjnieaaGreat
namespace Go.Proofs.YtbibdnlbpjnieaaGreat
open Go Go.Abs
section
variable {w:Nw} (h:VN w)
include h
end
end Go.Proofs.YtbibdnlbpjnieaaGreat
namespace Go.Proofs.YtbibdnlbpjnieaaGreat
open Go Go.Abs
section
variable {w:Nw} (h:VN w)
include h
end
end Go.Proofs.YtbibdnlbpjnieaaGreat
namespace Go.Proofs.YtbibdnlbpjnieaaGreat
open Go Go.Abs
def msgH (h:Hd):Msg:=⟨16*h.a+h.b,h.c,16*h.d+h.e,h.f,h.g⟩
def hM (h:Hd):Option Msg:=if h.is=true then some (msgH h) else none
section
variable {w:Nw} (h:VN w)
include h
end
def runW (w:Nw):Nat→Nw
 | 0=>w
 | T+1=>rndW (runW w T)
theorem VN.run {w:Nw} (h:VN w) (T:Nat):VN (runW w T):=by
 induction T with
 | zero=>exact h
 | succ T ih=>exact ih.rnd
end Go.Proofs.YtbibdnlbpjnieaaGreat
namespace Go.Proofs.YtbibdnlbpjnieaaGreat
open Go Go.Abs
abbrev fl1:Fl:=⟨false,false,false,false,true⟩
theorem RoundV (f:Fl) (w:Nw) (h:VN w):ans Tryz.prog pol 22 [nwT f w]=some (.tup [nwT fl1 (rndW w),I 0]):=q6m f w h.z h.ok h.b6
def t3:Tpo:=⟨5,[false,false,false,true,true],[⟨0,1,1,0⟩,⟨1,2,1,0⟩,⟨0,2,5,0⟩,⟨3,0,1,0⟩,⟨4,2,1,0⟩]⟩
theorem qiB:ans Tryz.prog pol 27 []=some (tpT true true t3):=q0v (n:=10) 3 (by kernel_rfl)
def pr0:List Int:=[0,0,0,0,0]
def n0:Nw:=⟨t3,pr0,List.replicate t3.links.length false,newL (newW t3 pr0)⟩
def n3:Nw:=⟨(rndW (rndW n0)).t,(rndW (rndW n0)).prios,(rndW (rndW n0)).down.set 1 true,cutL (rndW (rndW n0)) 1⟩
theorem t3_ok:okT t3=true:=by decide +kernel
theorem n0_ok:VN n0:=VN.new t3_ok (by decide +kernel)
theorem n3_ok:VN n3:=n0_ok.rnd.rnd.cut 1
theorem g0_eq:asL n0 (goalW n0)=[2,1,2,1,2,3,0,2,0,2]:=by decide +kernel
theorem r0_eq:asL n0 (roleW n0)=[2,2,2,2,2,2,0,2,0,2]:=by decide +kernel
theorem r2_eq:asL (rndW (rndW n0)) (roleW (rndW (rndW n0)))=[2,1,2,1,2,3,0,2,0,2]:=by decide +kernel
theorem g3_eq:asL n3 (goalW n3)=[2,1,0,0,2,1,0,2,0,2]:=by decide +kernel
theorem qiC:ans Tryz.prog pol 6 []=some (B true):=by
 have k0:=qiB
 have k1:ans Tryz.prog pol 8 [tpT true true t3,.sl true 1 [I 0,I 0,I 0,I 0,I 0]]=some (.tup [nwT fl1 n0,I 0]):=qhV true true true t3 pr0 t3_ok (by decide +kernel)
 have k2:=q6N fl1 n0 n0_ok.z n0_ok.ok
 have k3:=q6B fl1 n0 n0_ok.z n0_ok.ok
 have k4:=RoundV fl1 n0 n0_ok
 have k5:=RoundV fl1 (rndW n0) n0_ok.rnd
 have k6:=q6B fl1 (rndW (rndW n0)) n0_ok.rnd.rnd.z n0_ok.rnd.rnd.ok
 have k7:ans Tryz.prog pol 23 [nwT fl1 (rndW (rndW n0)),I 1]=some (.tup [nwT fl1 n3,I 0]):=q6q fl1 (rndW (rndW n0)) n0_ok.rnd.rnd.z n0_ok.rnd.rnd.ok 1 (by decide +kernel) n0_ok.rnd.rnd.b6
 have k8:=q6N fl1 n3 n3_ok.z n3_ok.ok
 have k9:=q6p fl1 n0 5 n0_ok.z n0_ok.ok (.inr (by decide +kernel))
 rw [g0_eq] at k2
 rw [r0_eq] at k3
 rw [r2_eq] at k6
 rw [g3_eq] at k8
 have e1:=q1P true true [2,1,2,1,2,3,0,2,0,2] [2,1,2,1,2,3,0,2,0,2] (by decide)
 have e2:=q1P true true [2,2,2,2,2,2,0,2,0,2] [2,2,2,2,2,2,0,2,0,2] (by decide)
 have e3:=q1P true true [2,1,0,0,2,1,0,2,0,2] [2,1,0,0,2,1,0,2,0,2] (by decide)
 have d1:decide ([(2:Int),1,2,1,2,3,0,2,0,2]=[2,1,2,1,2,3,0,2,0,2])=true:=by decide
 have d2:decide ([(2:Int),2,2,2,2,2,0,2,0,2]=[2,2,2,2,2,2,0,2,0,2])=true:=by decide
 have d3:decide ([(2:Int),1,0,0,2,1,0,2,0,2]=[2,1,0,0,2,1,0,2,0,2])=true:=by decide
 rw [d1] at e1
 rw [d2] at e2
 rw [d3] at e3
 simp only [List.map_cons,List.map_nil] at k2 k3 k6 k8 e1 e2 e3
 generalize n3=w3 at *
 generalize rndW (rndW n0)=w2 at *
 generalize rndW n0=w1 at *
 generalize n0=w0 at *
 generalize t3=T3 at *
 refine q00 100 1 il6_eq (Nat.le_of_ble_eq_true rfl) ?_
 (repeat' first|simp only [il6c,go_sem,k0,k1,k2,k3,k4,k5,k6,k7,k8,k9,e1,e2,e3]|with_reducible refine wX fun _=>?_|((with_reducible refine wY ?_ ?_); rfl)|fail)
end Go.Proofs.YtbibdnlbpjnieaaGreat
namespace Go.Proofs.YtbibdnlbpjnieaaGreat
open Go Go.Abs
def fewT (t:Tpo):Tpo:=⟨t.nodes,t.station.take 20,t.links.take 30⟩
theorem qiD (c1 c2:Bool) (t:Tpo):∃ d1 d2,ans Tryz.prog pol 7 [tpT c1 c2 t]=some (tpT d1 d2 (fewT t)):=by
 obtain ⟨nodes,st,lk⟩:=t
 simp only [fewT,tpT,tpC]
 have m20:(if 20 < ((st.length:Nat):Int) then (20:Int) else ((st.length:Nat):Int))=((min 20 st.length:Nat):Int):=by split <;> omega
 have m30:(if 30 < ((lk.length:Nat):Int) then (30:Int) else ((lk.length:Nat):Int))=((min 30 lk.length:Nat):Int):=by split <;> omega
 have t20:List.take (min 20 st.length) (st.map B)=(st.take 20).map B:=by rw [List.map_take,List.take_eq_take_min (i:=20) (l:=st.map B),List.length_map]
 have t30:List.take (min 30 lk.length) (lk.map encK)=(lk.take 30).map encK:=by rw [List.map_take,List.take_eq_take_min (i:=30) (l:=lk.map encK),List.length_map]
 have q20:min 20 st.length≤st.length:=Nat.min_le_right _ _
 have q30:min 30 lk.length≤lk.length:=Nat.min_le_right _ _
 generalize hA:(st.take 20).map B=A at *
 generalize hL:(lk.take 30).map encK=L at *
 generalize hb1:decide (min 20 st.length=st.length)=b1 at *
 generalize hb2:decide (min 30 lk.length=lk.length)=b2 at *
 refine ⟨c1 && b1,c2 && b2,?_⟩
 refine q00 1 1 il7_eq (Nat.le_of_ble_eq_true rfl) ?_
 (repeat' first|simp only [il7c,go_sem,m20,m30,t20,t30,q20,q30,hb1,hb2]|with_reducible refine wX fun _=>?_|((with_reducible refine wY ?_ ?_); rfl)|fail)
theorem q6O (e:Int):ans Tryz.prog pol 10 [zN6,I e,I e]=some (B true):=by
 have k1:=q6j (n:=0) (st:=[]) (lk:=[]) (pr:=[]) (dn:=[]) (xs:=[]) (ys:=[]) (q0t (k:=1)) (q0t (k:=4)) (q0t (k:=1)) (q0t (k:=1)) (q0t (k:=5)) (q0t (k:=1)) (q0t (k:=4)) (q0t (k:=1)) (q0t (k:=1)) (q0t (k:=5)) (by simp) (by simp) (by simp) (by simp) ⟨by simp,fun x h=>(by cases h)⟩ ⟨rfl,fun i x y h=>by simp at h⟩
 have d:decide (e=e)=true:=decide_eq_true rfl
 refine q00 1 1 il10_eq (Nat.le_of_ble_eq_true rfl) ?_
 (repeat' first|simp only [il10c,go_sem,k1,d]|with_reducible refine wX fun _=>?_|((with_reducible refine wY ?_ ?_); rfl)|fail)
theorem q3K (f f':Fl) (w w':Nw) (ht:w.t=w'.t) (hp:w.prios=w'.prios) (hd:w.down=w'.down) (l1:w.t.station.length≤1000) (l2:w.t.links.length≤1000) (l3:w.prios.length≤1000) (l4:w.down.length≤1000) (l5:smallB w.bs) (hb:sameB w.bs w'.bs) :
  ans Tryz.prog pol 12 [nwT f w,I 0,nwT f' w']=some (B true):=by
 obtain ⟨t,p,d,bs⟩:=w
 obtain ⟨t',p',d',bs'⟩:=w'
 dsimp only at ht hp hd l1 l2 l3 l4 l5 hb
 subst ht hp hd
 have k1:=q6j (n:=t.nodes) (S1:=.sl f.st 1 (t.station.map B)) (S2:=.sl f.lk 4 (t.links.map encK)) (S3:=.sl f.pr 1 (p.map I)) (S4:=.sl f.dn 1 (d.map B)) (S5:=.sl f.bs 5 (bs.map encX)) (S1':=.sl f'.st 1 (t.station.map B)) (S2':=.sl f'.lk 4 (t.links.map encK)) (S3':=.sl f'.pr 1 (p.map I)) (S4':=.sl f'.dn 1 (d.map B)) (S5':=.sl f'.bs 5 (bs'.map encX))
  q0m q0m q0m q0m q0m q0m q0m q0m q0m q0m l1 l2 l3 l4 l5 hb
 refine q00 1 1 il12_eq (Nat.le_of_ble_eq_true rfl) ?_
 (repeat' first|simp only [il12c,go_sem,k1]|with_reducible refine wX fun _=>?_|((with_reducible refine wY ?_ ?_); rfl)|fail)
end Go.Proofs.YtbibdnlbpjnieaaGreat
namespace Go.Proofs.YtbibdnlbpjnieaaGreat
open Go Go.Abs
theorem min20 {n:Nat}:(if 20 < ((n:Nat):Int) then (20:Int) else ((n:Nat):Int))=((min 20 n:Nat):Int):=by split <;> omega
theorem min30 {n:Nat}:(if 30 < ((n:Nat):Int) then (30:Int) else ((n:Nat):Int))=((min 30 n:Nat):Int):=by split <;> omega
theorem q1C {α:Type} {enc:α→T} {l:List α} {k:Nat}:List.take (min k l.length) (l.map enc)=(l.take k).map enc:=by rw [List.map_take,List.take_eq_take_min (i:=k) (l:=l.map enc),List.length_map]
def limX (x:Bx):Bx:=⟨false,x.c1 && decide (min 30 x.b.ports.length=x.b.ports.length),x.c2 && decide (min 30 x.b.costs.length=x.b.costs.length),x.c3 && decide (min 30 x.b.heard.length=x.b.heard.length),⟨x.b.p,x.b.n,x.b.ports.take 30,x.b.costs.take 30,x.b.heard.take 30⟩⟩
structure Lim (w:Nw):Prop where
 st:w.t.station.length≤20
 lk:w.t.links.length≤30
 pr:w.prios.length≤20
 dn:w.down.length≤30
 bs:w.bs.length≤20
 z:∀ x∈w.bs,x.z=false
 b:∀ x∈w.bs,x.b.ports.length≤30∧x.b.costs.length≤30∧x.b.heard.length≤30
theorem qiE (f:Fl) (w:Nw) (hz:∀ x∈w.bs,x.z=false):∃ f' w',Lim w'∧ans Tryz.prog pol 15 [nwT f w]=some (nwT f' w'):=by
 obtain ⟨d1,d2,kf⟩:=qiD f.st f.lk w.t
 have hX1:(fewT w.t).station.length≤20:=by simp [fewT]; omega
 have hX2:(fewT w.t).links.length≤30:=by simp [fewT]; omega
 generalize fewT w.t=X at *
 have m20:=@min20 w.prios.length
 have m30:=@min30 w.down.length
 have mB:=@min20 w.bs.length
 have t20:=@q1C _ I w.prios 20
 have t30:=@q1C _ B w.down 30
 have tB:=@q1C _ encX w.bs 20
 have q20:min 20 w.prios.length≤w.prios.length:=Nat.min_le_right _ _
 have q30:min 30 w.down.length≤w.down.length:=Nat.min_le_right _ _
 have qB:min 20 w.bs.length≤w.bs.length:=Nat.min_le_right _ _
 have hBm:∀ x∈w.bs.take 20,x.z=false:=fun x hx=>hz x (List.mem_of_mem_take hx)
 have hB20:(w.bs.take 20).length≤20:=by simp; omega
 have hBl:((w.bs.take 20).map encX).length=(w.bs.take 20).length:=List.length_map ..
 generalize hb1:decide (min 20 w.prios.length=w.prios.length)=b1 at *
 generalize hb2:decide (min 30 w.down.length=w.down.length)=b2 at *
 generalize hb3:decide (min 20 w.bs.length=w.bs.length)=b3 at *
 have hP:(w.prios.take 20).length≤20:=by simp; omega
 have hD:(w.down.take 30).length≤30:=by simp; omega
 generalize w.prios.take 20=P at *
 generalize w.down.take 30=D at *
 generalize w.bs.take 20=L at *
 refine ⟨⟨d1,d2,f.pr && b1,f.dn && b2,false⟩,⟨X,P,D,L.map limX⟩,⟨hX1,hX2,hP,hD,by simpa using hB20,fun x hx=>?_,fun x hx=>?_⟩,?_⟩
 ·obtain ⟨y,_,rfl⟩:=List.mem_map.1 hx; rfl
 ·obtain ⟨y,_,rfl⟩:=List.mem_map.1 hx
  simp only [limX,List.length_take]
  omega
 obtain ⟨nn,hn⟩:∃ nn,1000 < nn:=⟨1001,by omega⟩
 refine q00 nn 1 il15_eq (Nat.le_of_ble_eq_true rfl) ?_
 (repeat' first|simp only [il15c,go_sem,kf,m20,m30,mB,t20,t30,tB,q20,q30,qB,hb1,hb2,hb3]|with_reducible refine wX fun _=>?_|((with_reducible refine wY ?_ ?_); rfl)|fail)
 refine q04 L encX (step:=fun _ x (o:List Bx)=>.go (o++[limX x])) (fin:=id)
  (St:=fun i o e h=>(e 1=.ref 0 1 0 0∧e 2=.ref 1 1 0 0∧e 3=.ms 2 o.length 0 o.length 5 false∧e 32=.t (.sl (f.bs && b3) 5 (L.map encX))∧e 33=.t (I (L.length:Nat))∧e 34=.t (I (i:Nat)))∧o.length=i∧h=[.row 6 [.t (.agg [I X.nodes,.sl d1 1 (X.station.map B),.sl d2 4 (X.links.map encK),.sl (f.pr && b1) 1 (P.map I),.sl (f.dn && b2) 1 (D.map B),.sl f.bs 5 (w.bs.map encX)])] 1,.row 6 [.t zN6] 0,rowG 5 encX o])
  (Ex:=fun o x e h=>(e 1=.ref 0 1 0 0∧e 2=.ref 1 1 0 0∧e 3=.ms 2 o.length 0 o.length 5 false)∧x=.exit 0∧h=[.row 6 [.t (.agg [I X.nodes,.sl d1 1 (X.station.map B),.sl d2 4 (X.links.map encK),.sl (f.pr && b1) 1 (P.map I),.sl (f.dn && b2) 1 (D.map B),.sl f.bs 5 (w.bs.map encX)])] 1,.row 6 [.t zN6] 0,rowG 5 encX o]) (s:=[]) (by omega) ?_ ?_ (by omega) ?_ ?_
 ·intro i x o e h Y R hm hi hx hget hlt hw ⟨hs,ho,hh⟩ hk
  subst hh
  simp only [q01] at hk
  have hxz:=hBm x hm
  obtain ⟨z,c1,c2,c3,b⟩:=x
  dsimp only at hxz
  subst hxz
  have ex:encX ⟨false,c1,c2,c3,b⟩=brT c1 c2 c3 b:=rfl
  rw [ex] at hget
  have n1:=@min30 b.ports.length
  have n2:=@min30 b.costs.length
  have n3:=@min30 b.heard.length
  have u1:=@q1C _ I b.ports 30
  have u2:=@q1C _ I b.costs 30
  have u3:=@q1C _ encH b.heard 30
  have p1:min 30 b.ports.length≤b.ports.length:=Nat.min_le_right _ _
  have p2:min 30 b.costs.length≤b.costs.length:=Nat.min_le_right _ _
  have p3:min 30 b.heard.length≤b.heard.length:=Nat.min_le_right _ _
  have hroom:(o.length+1)*88≤roomB:=q07 (by omega) (by omega)
  have is1:rowIs 5 o.length (some (rowG 5 encX o)):=q0l
  have pu:=q1N (k:=5) (enc:=encX) (l:=o) (x:=limX ⟨false,c1,c2,c3,b⟩)
  have el:encX (limX ⟨false,c1,c2,c3,b⟩)=.agg [I b.p,I b.n,.sl (c1 && decide (min 30 b.ports.length=b.ports.length)) 1 ((b.ports.take 30).map I),.sl (c2 && decide (min 30 b.costs.length=b.costs.length)) 1 ((b.costs.take 30).map I),.sl (c3 && decide (min 30 b.heard.length=b.heard.length)) 8 ((b.heard.take 30).map encH)]:=rfl
  rw [el] at pu
  generalize limX ⟨false,c1,c2,c3,b⟩=LX at *
  generalize hr1:decide (min 30 b.ports.length=b.ports.length)=r1 at *
  generalize hr2:decide (min 30 b.costs.length=b.costs.length)=r2 at *
  generalize hr3:decide (min 30 b.heard.length=b.heard.length)=r3 at *
  generalize hq1:(b.ports.take 30).map I=Q1 at *
  generalize hq2:(b.costs.take 30).map I=Q2 at *
  generalize hq3:(b.heard.take 30).map encH=Q3 at *
  (repeat' first|simp only [il15l0_go,il15l0b,go_sem,hs,hget,hlt,hw,n1,n2,n3,u1,u2,u3,p1,p2,p3,hr1,hr2,hr3,hroom,is1,q0o,q0p,pu,q0K]|with_reducible refine wX fun _=>?_|((with_reducible refine wY ?_ ?_); rfl)|fail)
  all_goals (refine hk _ _ ⟨?_,by simp [ho],?_⟩ <;> first|(simp only [go_sem,hs,hw,List.length_append]; done)|rfl)
 ·intro o e h Y R hlt ⟨hs,ho,hh⟩ hk
  subst hh
  (repeat' first|simp only [il15l0_go,il15l0b,go_sem,hs,hlt]|with_reducible refine wX fun _=>?_|((with_reducible refine wY ?_ ?_); rfl)|fail)
  all_goals (refine hk _ _ _ ⟨?_,rfl,rfl⟩; simp only [go_sem,hs,id])
 ·refine ⟨?_,rfl,rfl⟩
  simp only [go_sem,hBl]
 ·intro x e h ⟨h1,h2,h3⟩
  have hf:∀ (l:List Bx) (i:Nat) (o:List Bx),foldC (ρ:=List Bx) (fun _ x o=>Ctl.go (o++[limX x])) id i l o=o++l.map limX:=by
   intro l
   induction l with
   | nil=>intro i o; simp [foldC]
   | cons y l ih=>intro i o; rw [q0a (s':=o++[limX y]) rfl,ih]; simp
  rw [hf,List.nil_append] at h1 h3
  generalize L.map limX=L2 at *
  subst h2 h3
  have is1:rowIs 5 L2.length (some (rowG 5 encX L2)):=q0l
  (repeat' first|simp only [il15c,go_sem,h1,is1,q0o,q0p]|with_reducible refine wX fun _=>?_|((with_reducible refine wY ?_ ?_); rfl)|fail)
end Go.Proofs.YtbibdnlbpjnieaaGreat
