/- Part 24 of the proof of TreeSteps. -/
import Derived.Test.YtbibdnlbpjnieaaGreatS23
set_option linter.all false
set_option maxRecDepth 100000
set_option maxHeartbeats 4000000
namespace Go.Proofs.YtbibdnlbpjnieaaGreat
open Go Go.Abs
noncomputable def lpRo (rf:Code × Code) (E:FEnv):AObj:=.loop 16 (lpEnv 40 (tidyF (some [2,3,5]) E)) [22,23] rf.1 rf.2 false none
noncomputable def hpRo (w:Nw) (rf:Code × Code) (E:FEnv) (s:List (Option (List Int)) × Nat):Heap :=
 [.row 1 [.t (.sc (.slice none 0 0))] 0,.row 1 [.t (I 0)] 0,.row 1 ((s.1.map encR).map .t) s.2,.row 1 [.ms 2 w.bs.length 0 w.bs.length 1 true] 1,lpRo rf E]
theorem qig (w:Nw) (rf:Code × Code) (E:FEnv) (hE:E 2=.ref 0 1 0 0∧E 3=.ref 1 1 0 0∧E 5=.ref 3 1 0 0) (s:List (Option (List Int)) × Nat) (h:Heap) (q:Nat) (hq:5≤q):mapO (frzObj h (fromB q)) (hpRo w rf E s)=some (hpRo w rf E s):=by
 have f0:decide (q≤0)=false:=decide_eq_false (by omega)
 have f1:decide (q≤1)=false:=decide_eq_false (by omega)
 have f3:decide (q≤3)=false:=decide_eq_false (by omega)
 have h1:frzObj h (fromB q) (lpRo rf E)=some (lpRo rf E):=by
  rw [lpRo,q0y]
  simp only [go_sem,hE,f0,f1,f3]
 have a1:avoidAll (fromB q) [.ms 2 w.bs.length 0 w.bs.length 1 true]=true:=by simp [avoidAll,avoid,fromB]; omega
 have a4:∀ x:T,avoidAll (fromB q) [.t x]=true:=fun x=>by simp [avoidAll,avoid]
 simp only [hpRo,mapO,h1,q08,q0e a1,q0e (a4 _)]
theorem qih (rf:Code × Code) (hrf:rfOf Tryz.prog 16 0=rf) (w:Nw) (h:NwOk w) (E:FEnv) (hE:E 2=.ref 0 1 0 0∧E 3=.ref 1 1 0 0∧E 5=.ref 3 1 0 0) (s:List (Option (List Int)) × Nat) (hsl:s.1.length=w.bs.length) (hmr:s.2≤w.bs.length) (n:Nat) (x:Bx) (hx:w.bs[n]? = some x) (hst:stA w.t n=false) (dd nn:Nat) (hn:200 < nn) (Q:AV→Heap→Prop)
  (hQ:∀ X',Q (.t (B true)) (hpRo w rf E (s.1.set n (some (rolesB x.b)),w.bs.length)++[.row 5 [.t (.agg (bxC x))] 1]++X')) :
  oB (inl Tryz.prog pol (ans Tryz.prog pol) nn (dd+1) (.yl 4) [.t (I (n:Nat)),.t (.agg (bxC x))] (hpRo w rf E s++[.row 5 [.t (.agg (bxC x))] 1])) Q:=by
 subst hrf
 obtain ⟨xz,xv⟩:=h.vb.2 n x hx hst
 have hnl:n < w.bs.length:=(List.getElem?_eq_some_iff.1 hx).1
 obtain ⟨z,c1,c2,c3,b⟩:=x
 dsimp only at xz xv hQ
 subst xz
 have hbc:bxC ⟨false,c1,c2,c3,b⟩=brC c1 c2 c3 b:=rfl
 rw [hbc] at hQ ⊢
 have k1:ans Tryz.prog pol 41 [brT c1 c2 c3 b]=some (.tup [.sl true 1 ((rolesB b).map I),I 0]):=qgL c1 c2 c3 b xv.ok
 have hb5:(T.agg (brC c1 c2 c3 b)).cells=brC c1 c2 c3 b:=rfl
 obtain ⟨y,hy⟩:∃ y,s.1[n]? = some y:=⟨s.1[n]'(by omega),by simp [show n < s.1.length by omega]⟩
 have gx:((s.1.map encR).map AV.t)[n]? = some (.t (encR y)):=q0c (enc:=encR) hy
 have hset:=map_set (enc:=encR) (l:=s.1) (i:=n) (x:=some (rolesB b))
 have hex:encR (some (rolesB b))=.sl true 1 ((rolesB b).map I):=rfl
 rw [hex] at hset
 have hslE:((s.1.map encR).map AV.t).length=w.bs.length:=by simp [hsl]
 have hyc:(encR y).cells=[encR y]:=by cases y <;> rfl
 have hya:(AV.t (encR y)).isAgg=false:=by cases y <;> rfl
 have hyc2:(AV.t (encR y)).cells=[.t (encR y)]:=by cases y <;> rfl
 have hav:∀ (q:Nat→Bool) (y:T),avoidAll q (((s.1.map encR).map AV.t).set n (.t y))=true:=fun q y=>by rw [← List.map_set,q0i]
 have hq:=hQ
 simp only [hpRo,lpRo,List.cons_append,List.nil_append] at hq ⊢
 rw [← hset] at hq
 generalize rolesB b=RB at *
 generalize encR y=Y at *
 with_reducible refine oB_yl (E:=tidyF (some [2,3,5]) E) rfl rfl rfl il16r0a_eq il16r0b_eq ?_
 (repeat' first|simp only [il16r0a,il16r0b,go_sem,hE,k1,hb5,gx,hslE,hyc,hya,hyc2,hnl,hmr,hav]|with_reducible refine wX fun _=>?_|((with_reducible refine wY ?_ ?_); rfl)|fail)
 all_goals exact hq _
end Go.Proofs.YtbibdnlbpjnieaaGreat
namespace Go.Proofs.YtbibdnlbpjnieaaGreat
open Go Go.Abs
theorem q6A {α:Type} {enc:α→T} {h:Heap} {p:Nat→Bool} {o k mr n d:Nat} {c:Bool} {l:List α} (hp:p o=true) (hr:h[o]? = some (.row k ((l.map enc).map .t) mr)) (hm:mr≤n) (hn:n=l.length) :
  snap h p (d+2) (.ms o n 0 n k c)=some (.sl c k (l.map enc)):=by
 subst hn
 have he:elemsOf h k (.ms o l.length 0 l.length k c)=some ((l.map enc).map .t):=by
  rw [q2h (by rw [hr]; exact ⟨rfl,by simp,hm⟩),hr]; rfl
 simp only [snap,hp,Bool.not_true,Bool.false_eq_true,if_false,if_true,he,q5R]
theorem q6B (f:Fl) (w:Nw) (hz:zOk w) (hok:okN w=true):ans Tryz.prog pol 16 [nwT f w]=some (.tup [.sl true 1 ((asL w (roleW w)).map I),I 0]):=by
 have hO:=q0I hok hz
 obtain ⟨z1,z2,z3⟩:=q06 hO.t
 have hpl:=q0A hO.rank
 have hbl:=hO.bl
 have k1:=q0F f w hz (by omega) (by omega)
 rw [if_pos hok] at k1
 have hroom:24*w.bs.length≤roomB:=by rw [Nat.mul_comm]; exact q07 (by omega) (by omega)
 have hbig:w.bs.length≤9223372036854775807:=by omega
 have hb100:w.bs.length≤100:=by omega
 have k2:=q6z f w 43 [.ip [.sl true 1 (((List.range w.bs.length).map (rolesAt w)).map encR)],.ip (nwC f w)] (roleW w) hO.t hbl hO.dl rfl rfl (fun n p hn hs hp _=>qif f w hO n p hn hs hp)
 obtain ⟨nn,h2000⟩:∃ nn,2000 < nn:=⟨2001,by omega⟩
 have hn2:200 < nn:=by omega
 refine q00 nn 5 il16_eq (Nat.le_of_ble_eq_true rfl) ?_
 simp only [il16c]
 generalize hrf:rfOf Tryz.prog 16 0=rf
 (repeat' first|simp only [List.cons_append,List.nil_append,go_sem,k1,hroom,hbig]|with_reducible refine wX fun _=>?_|((with_reducible refine wY ?_ ?_); rfl)|((with_reducible refine q0b il31_eq ?_ ?_); exact Nat.le_of_ble_eq_true rfl; simp only [il31c])|fail)
 have hrep:List.replicate w.bs.length (AV.t (T.sc (Value.slice none 0 0)))=((List.replicate w.bs.length (none:Option (List Int))).map encR).map .t:=by simp [encR]
 have key:∀ E:FEnv,([.row 1 [.t (.sc (.slice none 0 0))] 0,.row 1 [.t (I 0)] 0,.row 1 (((List.replicate w.bs.length (none:Option (List Int))).map encR).map .t) 0,.row 1 [.ms 2 w.bs.length 0 w.bs.length 1 true] 1,.loop 16 (lpEnv 40 (tidyF (some [2,3,5]) E)) [22,23] rf.1 rf.2 false none]:Heap)=hpRo w rf E (List.replicate w.bs.length none,0):=fun E=>rfl
 rw [hrep,key]
 have h45:4 < 5:=by omega
 have hI0:(List.replicate w.bs.length none,0).1=fillL (rolesAt w) none w.bs.length 0∧(List.replicate w.bs.length (none:Option (List Int)),0).2≤w.bs.length:=⟨(q17 _ _ _).symm,Nat.zero_le _⟩
 have hstep:∀ (n:Nat) (s:List (Option (List Int)) × Nat),n < w.bs.length→(s.1=fillL (rolesAt w) none w.bs.length n∧s.2≤w.bs.length)→((stS w.t (fun (s:List (Option (List Int)) × Nat) n=>(s.1.set n (some (rolesB (bxA w n).b)),w.bs.length)) s n).1=fillL (rolesAt w) none w.bs.length (n+1)∧(stS w.t (fun (s:List (Option (List Int)) × Nat) n=>(s.1.set n (some (rolesB (bxA w n).b)),w.bs.length)) s n).2≤w.bs.length):=by
  intro n s hnb hI
  unfold stS
  by_cases hs:stA w.t n=true
  ·rw [if_pos hs,q2t hnb (by rw [rolesAt,if_pos hs])]
   exact hI
  ·rw [if_neg hs]
   refine ⟨?_,Nat.le_refl _⟩
   show s.1.set n _=_
   rw [hI.1]
   exact q0Q hnb (by rw [rolesAt,if_neg hs])
 with_reducible refine @q3y (List (Option (List Int)) × Nat) (fun s=>hpRo w rf _ s) 5 (fun s=>rfl) (fun s n=>(s.1.set n (some (rolesB (bxA w n).b)),w.bs.length)) 4 nn 4 (fun n s=>s.1=fillL (rolesAt w) none w.bs.length n∧s.2≤w.bs.length) w hstep ?_ h45 f z2 hbl hb100 ?_ (List.replicate w.bs.length none,0) hI0 _ hn2 ?_
 ·intro s h q hq
  exact qig w rf _ (by simp only [go_sem]) s h q hq
 ·intro s n x Q hx hs hI hQ
  have hnl:n < w.bs.length:=(List.getElem?_eq_some_iff.1 hx).1
  have hbx:bxA w n=x:=by simp [bxA,hx]
  have hI:s.1=fillL (rolesAt w) none w.bs.length n∧s.2≤w.bs.length:=hI
  have hQ':∀ X',Q (.t (B true)) (hpRo w rf _ (s.1.set n (some (rolesB (bxA w n).b)),w.bs.length)++[.row 5 [.t (.agg (bxC x))] 1]++X'):=hQ
  rw [hbx] at hQ'
  have hl:s.1.length=w.bs.length:=by rw [hI.1]; exact q0X _ _ (Nat.le_of_lt hnl)
  with_reducible exact @qih rf hrf w hO _ (by simp only [go_sem]) s hl hI.2 n x hx hs 3 nn hn2 Q hQ'
 ·intro v
  have hfin:∀ k,k≤w.bs.length→((List.range k).foldl (stS w.t (fun (s:List (Option (List Int)) × Nat) n=>(s.1.set n (some (rolesB (bxA w n).b)),w.bs.length))) (List.replicate w.bs.length none,0)).1=fillL (rolesAt w) none w.bs.length k∧((List.range k).foldl (stS w.t (fun (s:List (Option (List Int)) × Nat) n=>(s.1.set n (some (rolesB (bxA w n).b)),w.bs.length))) (List.replicate w.bs.length none,0)).2≤w.bs.length:=by
   intro k
   induction k with
   | zero=>intro _; exact hI0
   | succ k ih =>
    intro hk
    rw [List.range_succ,List.foldl_append,List.foldl_cons,List.foldl_nil]
    exact hstep k _ (by omega) (ih (by omega))
  obtain ⟨hf1,hf2⟩:=hfin w.bs.length (Nat.le_refl _)
  generalize (List.range w.bs.length).foldl _ _=s at *
  rw [q18] at hf1
  change rfEnd _ _ _ v (hpRo w rf _ s)
  rw [← hf1] at k2
  have hl4:s.1.length=w.bs.length:=by rw [hf1]; simp
  have fz1:∀ (hx:Heap) (p:Nat→Bool),p 2=true→hx[2]? = some (.row 1 ((s.1.map encR).map AV.t) s.2)→frz hx p (.ms 2 w.bs.length 0 w.bs.length 1 true)=some (.t (.sl true 1 (s.1.map encR))):=fun hx p hp hg=>q1O (l:=s.1) hp hg hf2 hl4.symm
  have sn1:∀ (hx:Heap) (p:Nat→Bool),p 2=true→hx[2]? = some (.row 1 ((s.1.map encR).map .t) s.2)→snap hx p 19 (.ms 2 w.bs.length 0 w.bs.length 1 true)=some (.sl true 1 (s.1.map encR)):=fun hx p hp hg=>q6A (l:=s.1) (d:=17) hp hg hf2 hl4.symm
  simp only [hpRo,lpRo,List.cons_append,List.nil_append]
  (repeat' first|simp only [il16c,go_sem,q08,k2,fz1,sn1]|with_reducible refine wX fun _=>?_|((with_reducible refine wY ?_ ?_); rfl)|fail)
end Go.Proofs.YtbibdnlbpjnieaaGreat
namespace Go.Proofs.YtbibdnlbpjnieaaGreat
open Go Go.Abs
def upA (w:Nw) (i:Nat):Bool:=!dnA w i && (!stA w.t (lnk w.t i).a.toNat && !stA w.t (lnk w.t i).b.toNat)
def upS {σ:Type} (w:Nw) (nx:σ→Nat→σ) (s:σ) (i:Nat):σ:=if upA w i=true then nx s i else s
theorem q6C (f:Fl) (w:Nw):ans Tryz.prog pol 122 [nwT f w]=some (.fn (.func 141) [] [.ip (nwC f w)]):=by
 refine q00 1 1 il122_eq (Nat.le_of_ble_eq_true rfl) ?_
 (repeat' first|simp only [il122c,go_sem]|with_reducible refine wX fun _=>?_|((with_reducible refine wY ?_ ?_); rfl)|fail)
section
variable {σ:Type} (hp:σ→Heap) (N:Nat) (hN:∀ s,(hp s).length=N) (nx:σ→Nat→σ) (dd nn o:Nat) (w:Nw)
 (hfz:∀ (s:σ) (h:Heap) (q:Nat),N≤q→mapO (frzObj h (fromB q)) (hp s)=some (hp s)) (hoN:o < N)
include hN hfz hoN
theorem q6D (f:Fl) (hok:okT w.t=true) (hdl:w.down.length=w.t.links.length)
  (hy:∀ (s:σ) (n:Nat) (Q:AV→Heap→Prop),n < w.t.links.length→upA w n=true→(∀ X',Q (.t (B true)) (hp (nx s n)++[.row 4 [.t (lkT (lnk w.t n))] 1]++X'))→oB (inl Tryz.prog pol (ans Tryz.prog pol) nn dd (.yl o) [.t (lkT (lnk w.t n))] (hp s++[.row 4 [.t (lkT (lnk w.t n))] 1])) Q)
  (s:σ) (Q:AV→Heap→Prop) (hn:200 < nn) (hQ:∀ v,Q v (hp ((List.range w.t.links.length).foldl (upS w nx) s))) :
  oB (inl Tryz.prog pol (ans Tryz.prog pol) nn (dd+1) (.fn 141) [.yl o,.t (.ip (nwC f w))] (hp s)) Q:=by
 obtain ⟨z1,z2,z3⟩:=q06 hok
 with_reducible refine q0b il141_eq ?_ ?_
 ·exact Nat.le_of_ble_eq_true rfl
 have g1:∀ (s:σ) (x:AObj) (Y:Heap),(hp s++(x::Y))[N]? = some x:=fun s x Y=>by rw [List.getElem?_append_right (by rw [hN]; omega),hN,Nat.sub_self]; rfl
 have g4:∀ (s:σ) (x y:AObj),(hp s++[x]).set N y=hp s++[y]:=fun s x y=>by
  show List.set (hp s++[x]:List AObj) N y=_
  rw [List.set_append]
  simp [hN]
 have g5:∀ (s:σ) (Y:Heap),(hp s++Y).take N=hp s:=fun s Y=>by rw [List.take_append,hN,List.take_of_length_le (by rw [hN]; omega)]; simp
 have g6:∀ (s:σ) (hx:Heap),mapO (frzObj hx (fromB N)) (hp s)=some (hp s):=fun s hx=>hfz s hx N (Nat.le_refl _)
 have hlen:∀ (s:σ) (Y:Heap),(hp s++Y).length=N+Y.length:=fun s Y=>by simp [hN]
 have f2:decide (N≤o)=false:=decide_eq_false (by omega)
 have f4:∀ k,N < N+(k+1):=fun k=>by omega
 have f5:N < N+1:=by omega
 (repeat' first|simp only [il141c,go_sem,hN]|with_reducible refine wX fun _=>?_|((with_reducible refine wY ?_ ?_); rfl)|fail)
 refine q04 w.t.links encK (step:=fun n _ s=>.go (upS w nx s n)) (fin:=id)
  (St:=fun n s e h=>(e 0=.yl o∧e 1=.t (.ip (nwC f w))∧e 8=.t (.sl f.lk 4 (w.t.links.map encK))∧e 9=.t (I (w.t.links.length:Nat))∧e 10=.t (I (n:Nat)))∧h=hp s)
  (Ex:=fun s x e h=>x=.exit 0∧h=hp s) (s:=s) (by omega) ?_ ?_ (by omega) ?_ ?_
 ·intro n x s e h Y R hm hi hx hget hlt hw ⟨hs,hh⟩ hk
  subst hh
  simp only [q01] at hk
  have hlx:lnk w.t n=x:=by simp [lnk,hx]
  have he:=q1v hok hi
  rw [hlx] at he
  obtain ⟨⟨ha1,ha2⟩,⟨hb1,hb2⟩,_⟩:=he
  have gd:(w.down.map B)[n]? = some (B (dnA w n)):=by simp [dnA,show n < w.down.length by omega]
  obtain ⟨ga,qa⟩:=q0B w.t z2 (show nodeP w.t x.a from ⟨ha1,ha2⟩)
  obtain ⟨gb,qb⟩:=q0B w.t z2 (show nodeP w.t x.b from ⟨hb1,hb2⟩)
  have hcell:(lkT x).cells=[I x.a,I x.b,I x.per,I x.delay]:=rfl
  have hy1:=hy s n
  have hup:upA w n=(!dnA w n && (!stA w.t x.a.toNat && !stA w.t x.b.toNat)):=by rw [upA,hlx]
  rw [hlx] at hy1
  unfold upS at hk
  have hge:(w.t.links.map encK)[n]? = some (lkT x):=by simp [hx,encK]
  rw [hup] at hk hy1
  cases hd:dnA w n with
  | true =>
   rw [hd] at gd hk
   simp only [Bool.not_true,Bool.false_and,Bool.false_eq_true,if_false] at hk
   (repeat' first|simp only [il141l0_go,il141l0b,go_sem,hs,hge,hlt,hw,hN,g1,g4,g5,g6,hlen,f2,f5,q0d,gd,hcell]|with_reducible refine wX fun _=>?_|((with_reducible refine wY ?_ ?_); rfl)|fail)
   all_goals (refine hk _ _ ⟨?_,rfl⟩; simp only [go_sem,hs,hw,f2,q0d])
  | false =>
   rw [hd] at gd hk hy1
   cases hsa:stA w.t x.a.toNat with
   | true =>
    rw [hsa] at ga hk
    simp only [Bool.not_true,Bool.not_false,Bool.true_and,Bool.false_and,Bool.false_eq_true,if_false] at hk
    (repeat' first|simp only [il141l0_go,il141l0b,go_sem,hs,hge,hlt,hw,hN,g1,g4,g5,g6,hlen,f2,f5,q0d,gd,ga,qa,hcell]|with_reducible refine wX fun _=>?_|((with_reducible refine wY ?_ ?_); rfl)|fail)
    all_goals (refine hk _ _ ⟨?_,rfl⟩; simp only [go_sem,hs,hw,f2,q0d])
   | false =>
    rw [hsa] at ga hk hy1
    cases hsb:stA w.t x.b.toNat with
    | true =>
     rw [hsb] at gb hk
     simp only [Bool.not_true,Bool.not_false,Bool.true_and,Bool.false_eq_true,if_false] at hk
     (repeat' first|simp only [il141l0_go,il141l0b,go_sem,hs,hge,hlt,hw,hN,g1,g4,g5,g6,hlen,f2,f5,q0d,gd,ga,qa,gb,qb,hcell]|with_reducible refine wX fun _=>?_|((with_reducible refine wY ?_ ?_); rfl)|fail)
     all_goals (refine hk _ _ ⟨?_,rfl⟩; simp only [go_sem,hs,hw,f2,q0d])
    | false =>
     rw [hsb] at gb hk hy1
     simp only [Bool.not_false,Bool.true_and,if_true] at hk
     have hy2:=fun Q hq=>hy1 Q hi rfl hq
     (repeat' first|simp only [il141l0_go,il141l0b,go_sem,hs,hge,hlt,hN,g1,g4,hlen,gd,ga,qa,gb,qb,hcell]|with_reducible refine wX fun _=>?_|((with_reducible refine wY ?_ ?_); rfl)|fail)
     with_reducible refine hy2 _ ?_
     intro X'
     (repeat' first|simp only [il141l0_go,il141l0b,go_sem,hs,hw,List.append_assoc,g1,hlen,f2,f4,g5,g6,q0d]|with_reducible refine wX fun _=>?_|((with_reducible refine wY ?_ ?_); rfl)|fail)
     all_goals (refine hk _ _ ⟨?_,rfl⟩; simp only [go_sem,hs,hw,f2,q0d])
 ·intro s e h Y R hlt ⟨hs,hh⟩ hk
  subst hh
  (repeat' first|simp only [il141l0_go,il141l0b,go_sem,hs,hlt]|with_reducible refine wX fun _=>?_|((with_reducible refine wY ?_ ?_); rfl)|fail)
  all_goals (refine hk _ _ _ ?_; simp only [go_sem,id])
 ·refine ⟨?_,rfl⟩
  simp only [go_sem]
 ·intro x e h ⟨h1,h2⟩
  subst h1
  have hf:∀ (l:List Lk) (i:Nat) (s:σ),foldC (ρ:=σ) (fun n _ s=>Ctl.go (upS w nx s n)) id i l s=(List.range' i l.length).foldl (upS w nx) s:=by
   intro l
   induction l with
   | nil=>intro i s; rfl
   | cons l ls ih =>
    intro i s
    rw [q0a (s':=upS w nx s i) rfl,ih,List.length_cons,List.range'_succ,List.foldl_cons]
  rw [hf,← List.range_eq_range'] at h2
  subst h2
  (repeat' first|simp only [il141c,go_sem]|with_reducible refine wX fun _=>?_|((with_reducible refine wY ?_ ?_); rfl)|fail)
  exact hQ _
end
end Go.Proofs.YtbibdnlbpjnieaaGreat
namespace Go.Proofs.YtbibdnlbpjnieaaGreat
open Go Go.Abs
def encP (x:Int × Int):T:=.agg [I x.1,I x.2]
def hd2 (x:Int × Int):Hd:=⟨true,x.1,x.2,0,0,0,0,0⟩
def minR (x y:Int × Int):Int × Int:=if lt6 (hd2 y) (hd2 x) < 0 then y else x
def rA (R:List (Int × Int)) (n:Int):Int × Int:=R[n.toNat]?.getD (0,0)
def rtS (w:Nw) (s:List (Int × Int) × Nat) (i:Nat):List (Int × Int) × Nat :=
 ((s.1.set (lnk w.t i).a.toNat (minR (rA s.1 (lnk w.t i).a) (rA s.1 (lnk w.t i).b))).set (lnk w.t i).b.toNat (minR (rA s.1 (lnk w.t i).a) (rA s.1 (lnk w.t i).b)),w.t.nodes.toNat)
def rtI (w:Nw) (s:List (Int × Int) × Nat):Prop:=s.1.length=w.t.nodes.toNat∧s.2≤w.t.nodes.toNat
theorem q6E {w:Nw} {s:List (Int × Int) × Nat} {i:Nat} (h:rtI w s):rtI w (rtS w s i):=⟨by simp [rtS,h.1],Nat.le_refl _⟩
noncomputable def lpRt (rf:Code × Code) (E:FEnv):AObj:=.loop 88 (lpEnv 63 (tidyF (some [3]) E)) [30] rf.1 rf.2 false none
noncomputable def hpRt (N:Nat) (rf:Code × Code) (E:FEnv) (s:List (Int × Int) × Nat):Heap :=
 [.row 2 ((s.1.map encP).map .t) s.2,.row 1 [.ms 0 N 0 N 2 true] 1,lpRt rf E]
theorem qii (N:Nat) (rf:Code × Code) (E:FEnv) (hE:E 3=.ref 1 1 0 0) (s:List (Int × Int) × Nat) (h:Heap) (q:Nat) (hq:3≤q):mapO (frzObj h (fromB q)) (hpRt N rf E s)=some (hpRt N rf E s):=by
 have f1:decide (q≤1)=false:=decide_eq_false (by omega)
 have h1:frzObj h (fromB q) (lpRt rf E)=some (lpRt rf E):=by
  rw [lpRt,q0y]
  simp only [go_sem,hE,f1]
 have a1:avoidAll (fromB q) [.ms 0 N 0 N 2 true]=true:=by simp [avoidAll,avoid,fromB]; omega
 simp only [hpRt,mapO,h1,q08,q0e a1]
theorem qij (rf:Code × Code) (hrf:rfOf Tryz.prog 88 0=rf) (w:Nw) (hok:okT w.t=true) (E:FEnv) (hE:E 3=.ref 1 1 0 0) (s:List (Int × Int) × Nat) (hI:rtI w s) (i:Nat) (hi:i < w.t.links.length) (dd nn:Nat) (hn:200 < nn) (Q:AV→Heap→Prop)
  (hQ:∀ X',Q (.t (B true)) (hpRt w.t.nodes.toNat rf E (rtS w s i)++[.row 4 [.t (lkT (lnk w.t i))] 1]++X')) :
  oB (inl Tryz.prog pol (ans Tryz.prog pol) nn (dd+1) (.yl 2) [.t (lkT (lnk w.t i))] (hpRt w.t.nodes.toNat rf E s++[.row 4 [.t (lkT (lnk w.t i))] 1])) Q:=by
 subst hrf
 obtain ⟨⟨ha1,ha2⟩,⟨hb1,hb2⟩,hab⟩:=q1v hok hi
 obtain ⟨z1,z2,z3⟩:=q06 hok
 obtain ⟨s,mr⟩:=s
 obtain ⟨hl,hmr⟩:=hI
 dsimp only at hl hmr
 simp only [rtS] at hQ
 generalize lnk w.t i=l at *
 obtain ⟨la,lb,lp,ld⟩:=l
 dsimp only at ha1 ha2 hb1 hb2 hab hQ ⊢
 obtain ⟨a,rfl⟩:∃ a:Nat,la=(a:Nat):=⟨la.toNat,by omega⟩
 obtain ⟨b,rfl⟩:∃ b:Nat,lb=(b:Nat):=⟨lb.toNat,by omega⟩
 generalize hNN:w.t.nodes.toNat=N at *
 have haN:a < N:=by omega
 have hbN:b < N:=by omega
 obtain ⟨x,hx⟩:∃ x,s[a]? = some x:=⟨s[a]'(by omega),by simp [hl,haN]⟩
 obtain ⟨y,hy⟩:∃ y,s[b]? = some y:=⟨s[b]'(by omega),by simp [hl,hbN]⟩
 have hra:rA s ((a:Nat):Int)=x:=by simp [rA,hx]
 have hrb:rA s ((b:Nat):Int)=y:=by simp [rA,hy]
 rw [hra,hrb] at hQ
 simp only [Int.toNat_natCast] at hQ
 have k1:=q1z (hd2 y) (hd2 x)
 simp only [hd2] at k1
 have gx:((s.map encP).map AV.t)[a]? = some (.t (.agg [I x.1,I x.2])):=q0c (enc:=encP) hx
 have gy:((s.map encP).map AV.t)[b]? = some (.t (.agg [I y.1,I y.2])):=q0c (enc:=encP) hy
 have hsl:((s.map encP).map AV.t).length=N:=by simp [hl]
 have hcl:(T.agg [I ((a:Nat):Int),I ((b:Nat):Int),I lp,I ld]).cells=[I ((a:Nat):Int),I ((b:Nat):Int),I lp,I ld]:=rfl
 have hset:=fun r:Int × Int=>map_set (enc:=encP) (l:=s.set a r) (i:=b) (x:=r)
 have hset1:=fun r:Int × Int=>map_set (enc:=encP) (l:=s) (i:=a) (x:=r)
 have hab':a≠b:=fun h=>hab (by rw [h])
 have gy2:∀ r:T,(((s.map encP).map AV.t).set a (.t r))[b]? = some (.t (.agg [I y.1,I y.2])):=fun r=>by rw [List.getElem?_set_ne hab']; exact gy
 have hsl2:∀ r:AV,(((s.map encP).map AV.t).set a r).length=N:=fun r=>by simp [hl]
 have hq:=hQ
 have hav:∀ (q:Nat→Bool) (r:T),avoidAll q ((((s.map encP).map AV.t).set a (.t r)).set b (.t r))=true:=fun q r=>by rw [← List.map_set,← List.map_set,q0i]
 have hfin:∀ r:Int × Int,(((((s.set a r).set b r).map encP).map AV.t))=(((s.map encP).map AV.t).set a (.t (.agg [I r.1,I r.2]))).set b (.t (.agg [I r.1,I r.2])):=fun r=>by rw [← hset r,← hset1 r]; rfl
 simp only [hpRt,lpRt,List.cons_append,List.nil_append] at hq ⊢
 rw [hfin] at hq
 generalize (s.map encP).map AV.t=S at *
 by_cases hlt:lt6 (hd2 y) (hd2 x) < 0
 ·have hm:minR x y=y:=by rw [minR,if_pos hlt]
  simp only [hd2] at hlt
  have d1:=decide_eq_true hlt
  rw [hm] at hq
  with_reducible refine oB_yl (E:=tidyF (some [3]) E) rfl rfl rfl il88r0a_eq il88r0b_eq ?_
  (repeat' first|simp only [il88r0a,il88r0b,go_sem,hE,hcl,gx,gy,hsl,haN,hbN,hmr,k1,d1,gy2,hsl2,hav]|with_reducible refine wX fun _=>?_|((with_reducible refine wY ?_ ?_); rfl)|fail)
  all_goals exact hq _
 ·have hm:minR x y=x:=by rw [minR,if_neg hlt]
  simp only [hd2] at hlt
  have d1:=decide_eq_false hlt
  rw [hm] at hq
  with_reducible refine oB_yl (E:=tidyF (some [3]) E) rfl rfl rfl il88r0a_eq il88r0b_eq ?_
  (repeat' first|simp only [il88r0a,il88r0b,go_sem,hE,hcl,gx,gy,hsl,haN,hbN,hmr,k1,d1,gy2,hsl2,hav]|with_reducible refine wX fun _=>?_|((with_reducible refine wY ?_ ?_); rfl)|fail)
  all_goals exact hq _
end Go.Proofs.YtbibdnlbpjnieaaGreat
namespace Go.Proofs.YtbibdnlbpjnieaaGreat
open Go Go.Abs
def rt0 (w:Nw):List (Int × Int):=(List.range w.t.nodes.toNat).map (fun n=>(prA w n,((n:Nat):Int)))
def rtRound (w:Nw) (s:List (Int × Int) × Nat):List (Int × Int) × Nat:=(List.range w.t.links.length).foldl (upS w (rtS w)) s
def rtS1 (w:Nw) (R:List (Int × Int)) (i:Nat):List (Int × Int) :=
 (R.set (lnk w.t i).a.toNat (minR (rA R (lnk w.t i).a) (rA R (lnk w.t i).b))).set (lnk w.t i).b.toNat (minR (rA R (lnk w.t i).a) (rA R (lnk w.t i).b))
def rtRoundL (w:Nw) (R:List (Int × Int)):List (Int × Int):=(List.range w.t.links.length).foldl (upS w (rtS1 w)) R
def rootsL (w:Nw):List (Int × Int):=(List.range w.t.nodes.toNat).foldl (fun R _=>rtRoundL w R) (rt0 w)
theorem q6F {σ τ:Type} (w:Nw) (f:σ × τ→Nat→σ × τ) (g:σ→Nat→σ) (h:∀ s a,(f s a).1=g s.1 a) (s:σ × τ) (n:Nat):(upS w f s n).1=upS w g s.1 n:=by
 unfold upS
 split
 ·exact h s n
 ·rfl
theorem qik (w:Nw) (s:List (Int × Int) × Nat):(rtRound w s).1=rtRoundL w s.1:=q0C _ _ (q6F w (rtS w) (rtS1 w) (fun _ _=>rfl)) _ _
theorem qil {w:Nw} {s:List (Int × Int) × Nat} (h:rtI w s):rtI w (rtRound w s):=by
 unfold rtRound
 generalize w.t.links.length=k
 induction k with
 | zero=>exact h
 | succ k ih =>
  rw [List.range_succ,List.foldl_append,List.foldl_cons,List.foldl_nil]
  unfold upS
  split
  ·exact q6E ih
  ·exact ih
theorem qim (f:Fl) (w:Nw) (hok:okT w.t=true) (hpl:(w.prios.length:Int)=w.t.nodes) (hdl:w.down.length=w.t.links.length):ans Tryz.prog pol 88 [nwT f w]=some (.sl true 2 ((rootsL w).map encP)):=by
 obtain ⟨z1,z2,z3⟩:=q06 hok
 generalize hN:w.t.nodes.toNat=N at *
 have hNn:w.t.nodes=(N:Nat):=by omega
 have hroom:16*N≤roomB:=by rw [Nat.mul_comm]; exact q07 (by omega) (by omega)
 have hbig:N≤9223372036854775807:=by omega
 obtain ⟨nn,h2000⟩:∃ nn,2000 < nn:=⟨2001,by omega⟩
 have hn2:200 < nn:=by omega
 have asn:asNat (.t (I w.t.nodes))=some N:=by rw [hNn]; rfl
 refine q00 nn 5 il88_eq (Nat.le_of_ble_eq_true rfl) ?_
 (repeat' first|simp only [il88c,go_sem,hroom,hbig,asn]|with_reducible refine wX fun _=>?_|((with_reducible refine wY ?_ ?_); rfl)|fail)
 have hrep:List.replicate N (AV.t (T.agg [T.sc (Value.int IntKind.i64 0),T.sc (Value.int IntKind.i64 0)]))=((List.replicate N ((0,0):Int × Int)).map encP).map .t:=by simp [encP]
 rw [hrep]
 let fv:Nat→Int × Int:=fun n=>(prA w n,((n:Nat):Int))
 refine q04 (List.replicate N ()) (fun _=>I 0) (step:=fun n _ (s:List (Int × Int) × Nat)=>.go (s.1.set n (fv n),N)) (fin:=id)
  (St:=fun n s e h=>(e 1=.t (.ip (nwC f w))∧e 3=.ref 1 1 0 0∧e 13=.t (I (N:Nat))∧e 14=.t (I (n:Nat)))∧(s.1=fillL fv (0,0) N n∧s.2≤N)∧h=[.row 2 ((s.1.map encP).map .t) s.2,.row 1 [.ms 0 N 0 N 2 true] 1])
  (Ex:=fun s x e h=>(e 1=.t (.ip (nwC f w))∧e 3=.ref 1 1 0 0)∧x=.exit 0∧(s.1=rt0 w∧s.2≤N)∧h=[.row 2 ((s.1.map encP).map .t) s.2,.row 1 [.ms 0 N 0 N 2 true] 1]) (s:=(List.replicate N (0,0),0)) (by simp; omega) ?_ ?_ (by simp; omega) ?_ ?_
 ·intro n _ s e h Y R hm hi _ _ hlt hw ⟨hs,⟨hf,hmr⟩,hh⟩ hk
  subst hh
  simp only [List.length_replicate] at hi hlt
  simp only [q01] at hk
  obtain ⟨s,mr⟩:=s
  dsimp only at hf hmr hk
  have k1:=q1a f w n (show n < w.prios.length by omega)
  have hl:s.length=N:=by rw [hf]; exact q0X _ _ (Nat.le_of_lt hi)
  have hsl:((s.map encP).map AV.t).length=N:=by simp [hl]
  obtain ⟨y,hy⟩:∃ y,s[n]? = some y:=⟨s[n]'(by omega),by simp [hl,hi]⟩
  have gy:((s.map encP).map AV.t)[n]? = some (.t (.agg [I y.1,I y.2])):=q0c (enc:=encP) hy
  have hset:=map_set (enc:=encP) (l:=s) (i:=n) (x:=fv n)
  have hex:encP (fv n)=.agg [I (prA w n),I (n:Nat)]:=rfl
  rw [hex] at hset
  have hav:∀ (q:Nat→Bool) (r:T),avoidAll q (((s.map encP).map AV.t).set n (.t r))=true:=fun q r=>by rw [← List.map_set,q0i]
  rw [← hset] at hk
  have hst:s.set n (fv n)=fillL fv (0,0) N (n+1):=by rw [hf]; exact q0Q hi rfl
  (repeat' first|simp only [il88l0_go,il88l0b,go_sem,hs,hlt,hw,k1,gy,hsl,hi,hmr,hav]|with_reducible refine wX fun _=>?_|((with_reducible refine wY ?_ ?_); rfl)|fail)
  all_goals (refine hk _ _ ⟨?_,⟨hst,Nat.le_refl _⟩,?_⟩ <;> simp only [go_sem,hs,hw])
 ·intro s e h Y R hlt ⟨hs,hf,hh⟩ hk
  subst hh
  simp only [List.length_replicate] at hlt hs hf
  (repeat' first|simp only [il88l0_go,il88l0b,go_sem,hs,hlt]|with_reducible refine wX fun _=>?_|((with_reducible refine wY ?_ ?_); rfl)|fail)
  have hf2:s.1=rt0 w∧s.2≤N:=⟨by rw [hf.1,q18,rt0,hN],hf.2⟩
  all_goals (refine hk _ _ _ ⟨?_,rfl,hf2,rfl⟩; simp only [go_sem,hs,id])
 ·refine ⟨?_,⟨(q17 _ _ _).symm,Nat.zero_le _⟩,rfl⟩
  simp only [go_sem]
 ·intro x e h ⟨hs,hx,hf,hh⟩
  generalize foldC (ρ:=List (Int × Int) × Nat) _ _ _ _ _=s at *
  subst hx hh
  have hI0:rtI w s:=⟨by rw [hf.1,hN]; simp [rt0,hN],by rw [hN]; exact hf.2⟩
  have hroot:rootsL w=((List.range N).foldl (fun s _=>rtRound w s) s).1:=by
   rw [q0C (fun s _=>rtRound w s) (fun R _=>rtRoundL w R) (fun s _=>qik w s),hf.1,rootsL,hN]
  rw [hroot]
  obtain ⟨hI1,hI2⟩:=id hI0
  rw [hN] at hI1 hI2
  have hl0:((s.1.map encP).map AV.t).length=N:=by simp [hI1]
  (repeat' first|simp only [il88c,go_sem,hs]|with_reducible refine wX fun _=>?_|((with_reducible refine wY ?_ ?_); rfl)|fail)
  refine q04 (List.replicate N ()) (fun _=>I 0) (step:=fun n _ (s:List (Int × Int) × Nat)=>.go (rtRound w s)) (fin:=id)
   (St:=fun n s e h=>(e 1=.t (.ip (nwC f w))∧e 3=.ref 1 1 0 0∧e 25=.t (I (N:Nat))∧e 26=.t (I (n:Nat)))∧rtI w s∧h=[.row 2 ((s.1.map encP).map .t) s.2,.row 1 [.ms 0 N 0 N 2 true] 1])
   (Ex:=fun s x e h=>(e 3=.ref 1 1 0 0)∧x=.exit 2∧rtI w s∧h=[.row 2 ((s.1.map encP).map .t) s.2,.row 1 [.ms 0 N 0 N 2 true] 1]) (s:=s) (by simp; omega) ?_ ?_ (by simp; omega) ?_ ?_
  ·intro n _ s e h Y R hm hi _ _ hlt hw ⟨hs,hI,hh⟩ hk
   subst hh
   simp only [List.length_replicate] at hi hlt
   simp only [q01] at hk
   have hI2:=qil hI
   have ku:=q6C f w
   rw [il88l1_go]
   simp only [il88l1b]
   generalize hrf:rfOf Tryz.prog 88 0=rf
   (repeat' first|simp only [List.cons_append,List.nil_append,go_sem,hs,hlt,hw,ku]|with_reducible refine wX fun _=>?_|((with_reducible refine wY ?_ ?_); rfl)|fail)
   have key:∀ E:FEnv,([.row 2 ((s.1.map encP).map .t) s.2,.row 1 [.ms 0 N 0 N 2 true] 1,.loop 88 (lpEnv 63 (tidyF (some [3]) E)) [30] rf.1 rf.2 false none]:Heap)=hpRt N rf E s:=fun E=>rfl
   rw [key]
   have h23:2 < 3:=by omega
   let σ:={ s:List (Int × Int) × Nat // rtI w s }
   let nx:σ→Nat→σ:=fun s n=>⟨rtS w s.1 n,q6E s.2⟩
   have hfv:∀ (s:σ) k,((List.range k).foldl (upS w nx) s).1=(List.range k).foldl (upS w (rtS w)) s.1:=by
    intro s k
    induction k with
    | zero=>rfl
    | succ k ih =>
     rw [List.range_succ,List.foldl_append,List.foldl_append,List.foldl_cons,List.foldl_cons,List.foldl_nil,List.foldl_nil,← ih]
     unfold upS
     split <;> rfl
   have hs0:∀ E:FEnv,hpRt N rf E s=(fun s:σ=>hpRt N rf E s.1) ⟨s,hI⟩:=fun E=>rfl
   rw [hs0]
   with_reducible refine @q6D σ (fun s:σ=>hpRt N rf _ s.1) 3 (fun s=>rfl) nx 4 nn 2 w ?_ h23 f hok hdl ?_ ⟨s,hI⟩ _ hn2 ?_
   ·intro s h q hq
    exact qii N rf _ (by simp only [go_sem,hs]) s.1 h q hq
   ·intro s i Q hi _ hQ
    have hQ':∀ X',Q (.t (B true)) (hpRt N rf _ (rtS w s.1 i)++[.row 4 [.t (lkT (lnk w.t i))] 1]++X'):=hQ
    have hy:=fun E hE=>@qij rf hrf w hok E hE s.1 s.2 i hi 3 nn hn2 Q
    rw [hN] at hy
    with_reducible exact hy _ (by simp only [go_sem,hs]) hQ'
   ·intro v
    change rfEnd _ _ _ v (hpRt N rf _ ((List.range w.t.links.length).foldl (upS w nx) ⟨s,hI⟩).1)
    rw [hfv]
    have hrr:rtRound w s=(List.range w.t.links.length).foldl (upS w (rtS w)) s:=rfl
    rw [← hrr]
    generalize rtRound w s=s3 at *
    simp only [hpRt,lpRt,List.cons_append,List.nil_append]
    (repeat' first|simp only [List.cons_append,List.nil_append,go_sem,q08,hs,hw]|with_reducible refine wX fun _=>?_|((with_reducible refine wY ?_ ?_); rfl)|fail)
    all_goals (refine hk _ _ ⟨?_,hI2,rfl⟩; simp only [go_sem,hs,hw])
  ·intro s e h Y R hlt ⟨hs,hI,hh⟩ hk
   subst hh
   simp only [List.length_replicate] at hlt hs
   (repeat' first|simp only [il88l1_go,il88l1b,go_sem,hs,hlt]|with_reducible refine wX fun _=>?_|((with_reducible refine wY ?_ ?_); rfl)|fail)
   all_goals (refine hk _ _ _ ⟨?_,rfl,hI,rfl⟩; simp only [go_sem,hs,id])
  ·refine ⟨?_,hI0,rfl⟩
   simp only [go_sem,hs]
  ·intro x e h ⟨hs,hx,hI,hh⟩
   have hfo:∀ (l:List Unit) (i:Nat) (s:List (Int × Int) × Nat),foldC (ρ:=List (Int × Int) × Nat) (fun n _ s=>Ctl.go (rtRound w s)) id i l s=(List.range' i l.length).foldl (fun s _=>rtRound w s) s:=by
    intro l
    induction l with
    | nil=>intro i s; rfl
    | cons x l ih =>
     intro i s
     rw [q0a (s':=rtRound w s) rfl,ih,List.length_cons,List.range'_succ,List.foldl_cons]
   rw [hfo,List.length_replicate,← List.range_eq_range'] at hI hh
   generalize (List.range N).foldl (fun s _=>rtRound w s) s=s2 at *
   subst hx hh
   obtain ⟨hJ1,hJ2⟩:=hI
   rw [hN] at hJ1 hJ2
   have hl2:((s2.1.map encP).map AV.t).length=N:=by simp [hJ1]
   (repeat' first|simp only [il88c,go_sem,hs,hl2,hJ2]|with_reducible refine wX fun _=>?_|((with_reducible refine wY ?_ ?_); rfl)|fail)
end Go.Proofs.YtbibdnlbpjnieaaGreat
namespace Go.Proofs.YtbibdnlbpjnieaaGreat
open Go Go.Abs
def minI (x y:Int):Int:=if y < x then y else x
def dA (D:List Int) (n:Int):Int:=D[n.toNat]?.getD 0
def dsA (D:List Int) (l:Lk):Int:=minI (dA D l.a) (dA D l.b+l.per)
def dsB (D:List Int) (l:Lk):Int:=minI (dA D l.b) (dsA D l+l.per)
def dsS1 (w:Nw) (D:List Int) (i:Nat):List Int:=(D.set (lnk w.t i).a.toNat (dsA D (lnk w.t i))).set (lnk w.t i).b.toNat (dsB D (lnk w.t i))
def dsS (w:Nw) (s:List Int × Nat) (i:Nat):List Int × Nat:=(dsS1 w s.1 i,w.t.nodes.toNat)
def dsI (w:Nw) (s:List Int × Nat):Prop:=(s.1.length=w.t.nodes.toNat∧s.2≤w.t.nodes.toNat)∧∀ x∈s.1,0≤x∧x≤12000
theorem q3J {x y:Int} (hx:0≤x∧x≤12000) (hy:0≤y):0≤minI x y∧minI x y≤12000:=by unfold minI; split <;> omega
theorem dA_bd {D:List Int} (h:∀ x∈D,0≤x∧x≤12000) (n:Int):0≤dA D n∧dA D n≤12000:=by
 unfold dA
 cases hq:D[n.toNat]? with
 | none=>simp
 | some x=>exact h x (List.mem_of_getElem? hq)
theorem q6G {w:Nw} (hok:okT w.t=true) {s:List Int × Nat} {i:Nat} (hi:i < w.t.links.length) (h:dsI w s):dsI w (dsS w s i):=by
 obtain ⟨⟨h1,h2⟩,h3⟩:=h
 have hp:=q2y hok (p:=2*i) (by omega)
 have e1:2*i / 2=i:=by omega
 rw [perP,e1] at hp
 have ha:=dA_bd h3 (lnk w.t i).a
 have hb:=dA_bd h3 (lnk w.t i).b
 have h4:0≤dsA s.1 (lnk w.t i)∧dsA s.1 (lnk w.t i)≤12000:=q3J ha (by omega)
 have h5:0≤dsB s.1 (lnk w.t i)∧dsB s.1 (lnk w.t i)≤12000:=q3J hb (by omega)
 refine ⟨⟨by simp [dsS,dsS1,h1],Nat.le_refl _⟩,fun x hx=>?_⟩
 simp only [dsS,dsS1] at hx
 rcases List.mem_or_eq_of_mem_set hx with hx|rfl
 ·rcases List.mem_or_eq_of_mem_set hx with hx|rfl
  ·exact h3 x hx
  ·exact h4
 ·exact h5
noncomputable def lpDs (rf:Code × Code) (E:FEnv):AObj:=.loop 89 (lpEnv 57 (tidyF (some [7]) E)) [38] rf.1 rf.2 false none
noncomputable def hpDs (N:Nat) (rf:Code × Code) (E:FEnv) (s:List Int × Nat):Heap :=
 [.row 1 ((s.1.map I).map .t) s.2,.row 1 [.ms 0 N 0 N 1 true] 1,.row 1 [.fn (.func 123) [] [.ref 1 1 0 0]] 1,lpDs rf E]
theorem qin (N:Nat) (rf:Code × Code) (E:FEnv) (hE:E 7=.ref 2 1 0 0) (s:List Int × Nat) (h:Heap) (q:Nat) (hq:4≤q):mapO (frzObj h (fromB q)) (hpDs N rf E s)=some (hpDs N rf E s):=by
 have f1:decide (q≤2)=false:=decide_eq_false (by omega)
 have h1:frzObj h (fromB q) (lpDs rf E)=some (lpDs rf E):=by
  rw [lpDs,q0y]
  simp only [go_sem,hE,f1]
 have a1:avoidAll (fromB q) [.ms 0 N 0 N 1 true]=true:=by simp [avoidAll,avoid,fromB]; omega
 have a2:avoidAll (fromB q) [.fn (.func 123) [] [.ref 1 1 0 0]]=true:=by simp [avoidAll,avoid,fromB]; omega
 simp only [hpDs,mapO,h1,q08,q0e a1,q0e a2]
theorem qio (rf:Code × Code) (hrf:rfOf Tryz.prog 89 0=rf) (w:Nw) (hok:okT w.t=true) (E:FEnv) (hE:E 7=.ref 2 1 0 0) (s:List Int × Nat) (hI:dsI w s) (i:Nat) (hi:i < w.t.links.length) (dd nn:Nat) (hn:200 < nn) (Q:AV→Heap→Prop)
  (hQ:∀ X',Q (.t (B true)) (hpDs w.t.nodes.toNat rf E (dsS w s i)++[.row 4 [.t (lkT (lnk w.t i))] 1]++X')) :
  oB (inl Tryz.prog pol (ans Tryz.prog pol) nn (dd+2) (.yl 3) [.t (lkT (lnk w.t i))] (hpDs w.t.nodes.toNat rf E s++[.row 4 [.t (lkT (lnk w.t i))] 1])) Q:=by
 subst hrf
 obtain ⟨⟨ha1,ha2⟩,⟨hb1,hb2⟩,hab⟩:=q1v hok hi
 have hp:=q2y hok (p:=2*i) (by omega)
 have e1:2*i / 2=i:=by omega
 rw [perP,e1] at hp
 obtain ⟨z1,z2,z3⟩:=q06 hok
 obtain ⟨s,mr⟩:=s
 obtain ⟨⟨hl,hmr⟩,hbd⟩:=hI
 dsimp only at hl hmr hbd
 have hda:=dA_bd hbd (lnk w.t i).a
 have hdb:=dA_bd hbd (lnk w.t i).b
 have hdA:0≤dsA s (lnk w.t i)∧dsA s (lnk w.t i)≤12000:=q3J hda (by omega)
 simp only [dsS,dsS1] at hQ
 generalize lnk w.t i=l at *
 obtain ⟨la,lb,lp,ld⟩:=l
 dsimp only at ha1 ha2 hb1 hb2 hab hQ hp hda hdb hdA ⊢
 obtain ⟨a,rfl⟩:∃ a:Nat,la=(a:Nat):=⟨la.toNat,by omega⟩
 obtain ⟨b,rfl⟩:∃ b:Nat,lb=(b:Nat):=⟨lb.toNat,by omega⟩
 generalize hNN:w.t.nodes.toNat=N at *
 have haN:a < N:=by omega
 have hbN:b < N:=by omega
 obtain ⟨x,hx⟩:∃ x,s[a]? = some x:=⟨s[a]'(by omega),by simp [hl,haN]⟩
 obtain ⟨y,hy⟩:∃ y,s[b]? = some y:=⟨s[b]'(by omega),by simp [hl,hbN]⟩
 have hra:dA s ((a:Nat):Int)=x:=by simp [dA,hx]
 have hrb:dA s ((b:Nat):Int)=y:=by simp [dA,hy]
 have hA:dsA s ⟨(a:Nat),(b:Nat),lp,ld⟩=minI x (y+lp):=by simp only [dsA,hra,hrb]
 have hB:dsB s ⟨(a:Nat),(b:Nat),lp,ld⟩=minI y (minI x (y+lp)+lp):=by simp only [dsB,hA,hrb]
 rw [hA] at hdA
 rw [hra] at hda
 rw [hrb] at hdb
 rw [hA,hB] at hQ
 simp only [Int.toNat_natCast] at hQ
 have v1:IntKind.i64.wrap (y+lp)=y+lp:=q09 (by omega) (by omega)
 have v2:IntKind.i64.wrap ((if y+lp < x then y+lp else x)+lp)=(if y+lp < x then y+lp else x)+lp:=by
  have:minI x (y+lp)=(if y+lp < x then y+lp else x):=rfl
  rw [← this]; exact q09 (by omega) (by omega)
 have gx:((s.map I).map AV.t)[a]? = some (.t (I x)):=q0c (enc:=I) hx
 have gy:((s.map I).map AV.t)[b]? = some (.t (I y)):=q0c (enc:=I) hy
 have hsl:((s.map I).map AV.t).length=N:=by simp [hl]
 have hcl:(T.agg [I ((a:Nat):Int),I ((b:Nat):Int),I lp,I ld]).cells=[I ((a:Nat):Int),I ((b:Nat):Int),I lp,I ld]:=rfl
 have hab':a≠b:=fun h=>hab (by rw [h])
 have gy2:∀ r:AV,(((s.map I).map AV.t).set a r)[b]? = some (.t (I y)):=fun r=>by rw [List.getElem?_set_ne hab']; exact gy
 have gx2:∀ r:AV,(((s.map I).map AV.t).set a r)[a]? = some r:=fun r=>List.getElem?_set_self (by omega)
 have hsl2:∀ r:AV,(((s.map I).map AV.t).set a r).length=N:=fun r=>by simp [hl]
 have hfin:∀ r q:Int,(((s.set a r).set b q).map I).map AV.t=(((s.map I).map AV.t).set a (.t (I r))).set b (.t (I q)):=fun r q=>by
  rw [← map_set (enc:=I),← map_set (enc:=I)]
 have hq:=hQ
 have hav:∀ (q:Nat→Bool) (r u:T),avoidAll q ((((s.map I).map AV.t).set a (.t r)).set b (.t u))=true:=fun q r u=>by rw [← List.map_set,← List.map_set,q0i]
 simp only [hpDs,lpDs,List.cons_append,List.nil_append] at hq ⊢
 rw [hfin] at hq
 simp only [minI] at hq
 generalize (s.map I).map AV.t=S at *
 have hfc:(AV.fn (.func 123) [] [.ref 1 1 0 0]).cells=[AV.fn (.func 123) [] [.ref 1 1 0 0]]:=rfl
 with_reducible refine oB_yl (E:=tidyF (some [7]) E) rfl rfl rfl il89r0a_eq il89r0b_eq ?_
 (repeat' first|simp only [il89r0a,il89r0b,go_sem,hE,hcl,gx,gy,hsl,haN,hbN,hmr,gx2,gy2,hsl2,hav,v1,v2,hfc]|with_reducible refine wX fun _=>?_|((with_reducible refine wY ?_ ?_); rfl)|((with_reducible refine q0b il123_eq ?_ ?_); exact Nat.le_of_ble_eq_true rfl; simp only [il123c])|fail)
 all_goals exact hq _
end Go.Proofs.YtbibdnlbpjnieaaGreat
namespace Go.Proofs.YtbibdnlbpjnieaaGreat
open Go Go.Abs
def ds0 (w:Nw) (R:List (Int × Int)):List Int:=(List.range w.t.nodes.toNat).map (fun n=>if rA R ((n:Nat):Int)=(prA w n,((n:Nat):Int)) then 0 else 12000)
def dsRound (w:Nw) (s:List Int × Nat):List Int × Nat:=(List.range w.t.links.length).foldl (upS w (dsS w)) s
def dsRoundL (w:Nw) (D:List Int):List Int:=(List.range w.t.links.length).foldl (upS w (dsS1 w)) D
def distL (w:Nw) (R:List (Int × Int)):List Int:=(List.range w.t.nodes.toNat).foldl (fun D _=>dsRoundL w D) (ds0 w R)
theorem q6H (w:Nw) (s:List Int × Nat):(dsRound w s).1=dsRoundL w s.1:=q0C _ _ (q6F w (dsS w) (dsS1 w) (fun _ _=>rfl)) _ _
theorem qip {w:Nw} (hok:okT w.t=true) {s:List Int × Nat} {i:Nat} (hi:i < w.t.links.length) (h:dsI w s):dsI w (upS w (dsS w) s i):=by
 unfold upS
 split
 ·exact q6G hok hi h
 ·exact h
theorem q6I {w:Nw} (hok:okT w.t=true) {s:List Int × Nat} (h:dsI w s):dsI w (dsRound w s):=by
 unfold dsRound
 have:∀ k,k≤w.t.links.length→dsI w ((List.range k).foldl (upS w (dsS w)) s):=by
  intro k
  induction k with
  | zero=>intro _; exact h
  | succ k ih =>
   intro hk
   rw [List.range_succ,List.foldl_append,List.foldl_cons,List.foldl_nil]
   exact qip hok (by omega) (ih (by omega))
 exact this _ (Nat.le_refl _)
theorem qiq (f:Fl) (c:Bool) (w:Nw) (R:List (Int × Int)) (hok:okT w.t=true) (hpl:(w.prios.length:Int)=w.t.nodes) (hdl:w.down.length=w.t.links.length) (hR:R.length=w.t.nodes.toNat):ans Tryz.prog pol 89 [nwT f w,.sl c 2 (R.map encP)]=some (.sl true 1 ((distL w R).map I)):=by
 obtain ⟨z1,z2,z3⟩:=q06 hok
 generalize hN:w.t.nodes.toNat=N at *
 have hNn:w.t.nodes=(N:Nat):=by omega
 have hroom:8*N≤roomB:=by rw [Nat.mul_comm]; exact q07 (by omega) (by omega)
 have hbig:N≤9223372036854775807:=by omega
 obtain ⟨nn,h2000⟩:∃ nn,2000 < nn:=⟨2001,by omega⟩
 have hn2:200 < nn:=by omega
 have asn:asNat (.t (I w.t.nodes))=some N:=by rw [hNn]; rfl
 refine q00 nn 6 il89_eq (Nat.le_of_ble_eq_true rfl) ?_
 (repeat' first|simp only [il89c,go_sem,hroom,hbig,asn]|with_reducible refine wX fun _=>?_|((with_reducible refine wY ?_ ?_); rfl)|fail)
 have hrep:List.replicate N (AV.t (T.sc (Value.int IntKind.i64 0)))=((List.replicate N (0:Int)).map I).map .t:=by simp
 rw [hrep]
 let fv:Nat→Int:=fun n=>if rA R ((n:Nat):Int)=(prA w n,((n:Nat):Int)) then 0 else 12000
 refine q04 (List.replicate N ()) (fun _=>I 0) (step:=fun n _ (s:List Int × Nat)=>.go (s.1.set n (fv n),if fv n=0 then s.2 else N)) (fin:=id)
  (St:=fun n s e h=>(e 1=.t (.sl c 2 (R.map encP))∧e 2=.t (.ip (nwC f w))∧e 5=.ref 1 1 0 0∧e 15=.t (I (N:Nat))∧e 16=.t (I (n:Nat)))∧(s.1=fillL fv 0 N n∧s.2≤N)∧h=[.row 1 ((s.1.map I).map .t) s.2,.row 1 [.ms 0 N 0 N 1 true] 1])
  (Ex:=fun s x e h=>(e 2=.t (.ip (nwC f w))∧e 5=.ref 1 1 0 0)∧x=.exit 0∧(s.1=ds0 w R∧s.2≤N)∧h=[.row 1 ((s.1.map I).map .t) s.2,.row 1 [.ms 0 N 0 N 1 true] 1]) (s:=(List.replicate N 0,0)) (by simp; omega) ?_ ?_ (by simp; omega) ?_ ?_
 ·intro n _ s e h Y R' hm hi _ _ hlt hw ⟨hs,⟨hf,hmr⟩,hh⟩ hk
  subst hh
  simp only [List.length_replicate] at hi hlt
  simp only [q01] at hk
  obtain ⟨s,mr⟩:=s
  dsimp only at hf hmr hk
  have k1:=q1a f w n (show n < w.prios.length by omega)
  have hl:s.length=N:=by rw [hf]; exact q0X _ _ (Nat.le_of_lt hi)
  have hsl:((s.map I).map AV.t).length=N:=by simp [hl]
  have hgs:s[n]? = some 0:=by
   rw [hf,fillL,List.getElem?_append_right (by simp)]
   simp only [List.length_map,List.length_range,Nat.sub_self]
   rw [List.getElem?_replicate,if_pos (by omega)]
  have gy:((s.map I).map AV.t)[n]? = some (.t (I 0)):=q0c (enc:=I) hgs
  obtain ⟨y,hy⟩:∃ y,R[n]? = some y:=⟨R[n]'(by omega),by simp [show n < R.length by omega]⟩
  have hra:rA R ((n:Nat):Int)=y:=by simp [rA,hy]
  have gR:(R.map encP)[n]? = some (.agg [I y.1,I y.2]):=by simp [hy,encP]
  have hRl:n < R.length:=by omega
  have hcy:(T.agg [I y.1,I y.2]).cells=[I y.1,I y.2]:=rfl
  have hav:∀ (q:Nat→Bool) (r:T),avoidAll q (((s.map I).map AV.t).set n (.t r))=true:=fun q r=>by rw [← List.map_set,q0i]
  have hst:s.set n (fv n)=fillL fv 0 N (n+1):=by rw [hf]; exact q0Q hi rfl
  by_cases hq:y.1=prA w n∧y.2=((n:Nat):Int)
  ·have d1:=decide_eq_true hq
   have hfv:fv n=0:=by simp only [fv]; rw [hra,if_pos (Prod.ext hq.1 hq.2)]
   rw [hfv] at hk hst
   have hs0:s.set n 0=s:=q2p hgs
   rw [hs0] at hk hst
   simp only [if_true] at hk
   (repeat' first|simp only [il89l0_go,il89l0b,go_sem,hs,hlt,hw,k1,gR,hcy,hRl,d1,gy,hsl,hi,hmr,hav]|with_reducible refine wX fun _=>?_|((with_reducible refine wY ?_ ?_); rfl)|fail)
   all_goals (refine hk _ _ ⟨?_,⟨hst,hmr⟩,rfl⟩; simp only [go_sem,hs,hw])
  ·have d1:=decide_eq_false hq
   have hfv:fv n=12000:=by
    simp only [fv]
    rw [hra,if_neg (fun h=>hq (by rw [h]; exact ⟨rfl,rfl⟩))]
   rw [hfv] at hk hst
   have hset:=map_set (enc:=I) (l:=s) (i:=n) (x:=(12000:Int))
   simp only [show ((12000:Int)=0)=False by decide,if_false] at hk
   rw [← hset] at hk
   (repeat' first|simp only [il89l0_go,il89l0b,go_sem,hs,hlt,hw,k1,gR,hcy,hRl,d1,gy,hsl,hi,hmr,hav]|with_reducible refine wX fun _=>?_|((with_reducible refine wY ?_ ?_); rfl)|fail)
   all_goals (refine hk _ _ ⟨?_,⟨hst,Nat.le_refl _⟩,?_⟩ <;> simp only [go_sem,hs,hw])
 ·intro s e h Y R' hlt ⟨hs,hf,hh⟩ hk
  subst hh
  simp only [List.length_replicate] at hlt hs hf
  (repeat' first|simp only [il89l0_go,il89l0b,go_sem,hs,hlt]|with_reducible refine wX fun _=>?_|((with_reducible refine wY ?_ ?_); rfl)|fail)
  have hf2:s.1=ds0 w R∧s.2≤N:=⟨by rw [hf.1,q18,ds0,hN],hf.2⟩
  all_goals (refine hk _ _ _ ⟨?_,rfl,hf2,rfl⟩; simp only [go_sem,hs,id])
 ·refine ⟨?_,⟨(q17 _ _ _).symm,Nat.zero_le _⟩,rfl⟩
  simp only [go_sem]
 ·intro x e h ⟨hs,hx,hf,hh⟩
  generalize foldC (ρ:=List Int × Nat) _ _ _ _ _=s at *
  subst hx hh
  have hI0:dsI w s:=by
   refine ⟨⟨by rw [hf.1,hN]; simp [ds0,hN],by rw [hN]; exact hf.2⟩,fun x hx=>?_⟩
   rw [hf.1,ds0,List.mem_map] at hx
   obtain ⟨m,_,rfl⟩:=hx
   split <;> omega
  have hroot:distL w R=((List.range N).foldl (fun s _=>dsRound w s) s).1:=by
   rw [q0C (fun s _=>dsRound w s) (fun D _=>dsRoundL w D) (fun s _=>q6H w s),hf.1,distL,hN]
  rw [hroot]
  obtain ⟨⟨hI1,hI2⟩,_⟩:=id hI0
  rw [hN] at hI1 hI2
  have hl0:((s.1.map I).map AV.t).length=N:=by simp [hI1]
  have hfc:(AV.fn (.func 123) [] [.ref 1 1 0 0]).cells=[AV.fn (.func 123) [] [.ref 1 1 0 0]]:=rfl
  have hfs:storableAll [AV.fn (.func 123) [] [.ref 1 1 0 0]]=true:=rfl
  (repeat' first|simp only [il89c,go_sem,hs,hfc,hfs]|with_reducible refine wX fun _=>?_|((with_reducible refine wY ?_ ?_); rfl)|fail)
  refine q04 (List.replicate N ()) (fun _=>I 0) (step:=fun n _ (s:List Int × Nat)=>.go (dsRound w s)) (fin:=id)
   (St:=fun n s e h=>(e 2=.t (.ip (nwC f w))∧e 5=.ref 1 1 0 0∧e 7=.ref 2 1 0 0∧e 33=.t (I (N:Nat))∧e 34=.t (I (n:Nat)))∧dsI w s∧h=[.row 1 ((s.1.map I).map .t) s.2,.row 1 [.ms 0 N 0 N 1 true] 1,.row 1 [.fn (.func 123) [] [.ref 1 1 0 0]] 1])
   (Ex:=fun s x e h=>(e 5=.ref 1 1 0 0)∧x=.exit 2∧dsI w s∧h=[.row 1 ((s.1.map I).map .t) s.2,.row 1 [.ms 0 N 0 N 1 true] 1,.row 1 [.fn (.func 123) [] [.ref 1 1 0 0]] 1]) (s:=s) (by rw [List.length_replicate]; omega) ?_ ?_ (by rw [List.length_replicate]; omega) ?_ ?_
  ·intro n _ s e h Y R' hm hi _ _ hlt hw ⟨hs,hI,hh⟩ hk
   subst hh
   simp only [List.length_replicate] at hi hlt
   simp only [q01] at hk
   have hI2:=q6I hok hI
   have ku:=q6C f w
   rw [il89l1_go]
   simp only [il89l1b]
   generalize hrf:rfOf Tryz.prog 89 0=rf
   (repeat' first|simp only [List.cons_append,List.nil_append,go_sem,hs,hlt,hw,ku]|with_reducible refine wX fun _=>?_|((with_reducible refine wY ?_ ?_); rfl)|fail)
   have hff:∀ hx:Heap,frzObj hx (fromB 3) (.row 1 [.fn (.func 123) [] [.ref 1 1 0 0]] 1)=some (.row 1 [.fn (.func 123) [] [.ref 1 1 0 0]] 1):=fun hx=>q0e (by simp [avoidAll,avoid,fromB])
   have key:∀ E:FEnv,([.row 1 ((s.1.map I).map .t) s.2,.row 1 [.ms 0 N 0 N 1 true] 1,.row 1 [.fn (.func 123) [] [.ref 1 1 0 0]] 1,.loop 89 (lpEnv 57 (tidyF (some [7]) E)) [38] rf.1 rf.2 false none]:Heap)=hpDs N rf E s:=fun E=>rfl
   rw [key]
   have h34:3 < 4:=by omega
   let σ:={ s:List Int × Nat // dsI w s }
   let nx:σ→Nat→σ:=fun s n=>if h:n < w.t.links.length then ⟨dsS w s.1 n,q6G hok h s.2⟩ else s
   have hnxv:∀ (s:σ) n,n < w.t.links.length→(nx s n).1=dsS w s.1 n:=fun s n h=>by simp only [nx]; rw [dif_pos h]
   have hfv:∀ (s:σ) k,k≤w.t.links.length→((List.range k).foldl (upS w nx) s).1=(List.range k).foldl (upS w (dsS w)) s.1:=by
    intro s k
    induction k with
    | zero=>intro _; rfl
    | succ k ih =>
     intro hk
     rw [List.range_succ,List.foldl_append,List.foldl_append,List.foldl_cons,List.foldl_cons,List.foldl_nil,List.foldl_nil,← ih (by omega)]
     unfold upS
     split
     ·exact hnxv _ _ (by omega)
     ·rfl
   have hs0:∀ E:FEnv,hpDs N rf E s=(fun s:σ=>hpDs N rf E s.1) ⟨s,hI⟩:=fun E=>rfl
   rw [hs0]
   with_reducible refine @q6D σ (fun s:σ=>hpDs N rf _ s.1) 4 (fun s=>rfl) nx 5 nn 3 w ?_ h34 f hok hdl ?_ ⟨s,hI⟩ _ hn2 ?_
   ·intro s h q hq
    exact qin N rf _ (by simp only [go_sem,hs]) s.1 h q hq
   ·intro s i Q hi _ hQ
    have hQ':∀ X',Q (.t (B true)) (hpDs N rf _ (nx s i).1++[.row 4 [.t (lkT (lnk w.t i))] 1]++X'):=hQ
    rw [hnxv s i hi] at hQ'
    have hy:=fun E hE=>@qio rf hrf w hok E hE s.1 s.2 i hi 3 nn hn2 Q
    rw [hN] at hy
    with_reducible exact hy _ (by simp only [go_sem,hs]) hQ'
   ·intro v
    change rfEnd _ _ _ v (hpDs N rf _ ((List.range w.t.links.length).foldl (upS w nx) ⟨s,hI⟩).1)
    rw [hfv _ _ (Nat.le_refl _)]
    have hrr:dsRound w s=(List.range w.t.links.length).foldl (upS w (dsS w)) s:=rfl
    rw [← hrr]
    generalize dsRound w s=s3 at *
    simp only [hpDs,lpDs,List.cons_append,List.nil_append]
    (repeat' first|simp only [List.cons_append,List.nil_append,go_sem,q08,hff,hs,hw]|with_reducible refine wX fun _=>?_|((with_reducible refine wY ?_ ?_); rfl)|fail)
    all_goals (refine hk _ _ ⟨?_,hI2,rfl⟩; simp only [go_sem,hs,hw])
  ·intro s e h Y R' hlt ⟨hs,hI,hh⟩ hk
   subst hh
   simp only [List.length_replicate] at hlt hs
   (repeat' first|simp only [il89l1_go,il89l1b,go_sem,hs,hlt]|with_reducible refine wX fun _=>?_|((with_reducible refine wY ?_ ?_); rfl)|fail)
   all_goals (refine hk _ _ _ ⟨?_,rfl,hI,rfl⟩; simp only [go_sem,hs,id])
  ·refine ⟨?_,hI0,rfl⟩
   simp only [go_sem,hs]
  ·intro x e h ⟨hs,hx,hI,hh⟩
   have hfo:∀ (l:List Unit) (i:Nat) (s:List Int × Nat),foldC (ρ:=List Int × Nat) (fun n _ s=>Ctl.go (dsRound w s)) id i l s=(List.range' i l.length).foldl (fun s _=>dsRound w s) s:=by
    intro l
    induction l with
    | nil=>intro i s; rfl
    | cons x l ih =>
     intro i s
     rw [q0a (s':=dsRound w s) rfl,ih,List.length_cons,List.range'_succ,List.foldl_cons]
   rw [hfo,List.length_replicate,← List.range_eq_range'] at hI hh
   generalize (List.range N).foldl (fun s _=>dsRound w s) s=s2 at *
   subst hx hh
   obtain ⟨⟨hJ1,hJ2⟩,_⟩:=hI
   rw [hN] at hJ1 hJ2
   have hl2:((s2.1.map I).map AV.t).length=N:=by simp [hJ1]
   (repeat' first|simp only [il89c,go_sem,hs,hl2,hJ2]|with_reducible refine wX fun _=>?_|((with_reducible refine wY ?_ ?_); rfl)|fail)
end Go.Proofs.YtbibdnlbpjnieaaGreat
