/- Part 19 of the proof of TreeTells. -/
import Derived.Test.YtbibdnlbpjnieaaGreatT18
set_option linter.all false
set_option maxRecDepth 100000
set_option maxHeartbeats 4000000
namespace Go.Proofs.YtbibdnlbpjnieaaGreat
open Go Go.Abs
abbrev zN6:T:=.agg [I 0,.sc (.slice none 0 0),.sc (.slice none 0 0),.sc (.slice none 0 0),.sc (.slice none 0 0),.sc (.slice none 0 0)]
abbrev stepsT:T:=.agg [.fn (.func 59) [] [],.fn (.func 60) [] [],.fn (.func 61) [] []]
def rdH (w:Nw) (bs:List Bx) (mr:Nat) (sent:AV) (g:FuncId):Heap :=
 [.row 6 [.t zN6] 0,.row 3 [.t stepsT] 1,.row 6 [.agg (nwA 3 5 w)] 1,dnRow w,.row 6 [.agg (nwA 3 5 w)] 1,bsRow bs mr,.row 7 [.agg (nwA 3 5 w++[sent])] 1,.row 1 [.t (.agg [.fn (.func g) [] []])] 1]
def encS:Option (List Hd)→T
 | none=>.sc (.slice none 0 0)
 | some l=>.sl true 8 (l.map encH)
def sends (b:Br):List Hd:=(List.range b.ports.length).map (sentF b (opF b).t)
def sentAt (t:Tpo) (bs:List Bx) (n:Nat):Option (List Hd):=if stA t n=true then none else some (sends (bs[n]?.getD zBx).b)
noncomputable def lpSd (rf:Code × Code) (E:FEnv):AObj:=.loop 59 (lpEnv 40 (tidyF (some [1,2]) E)) [23,24] rf.1 rf.2 false none
noncomputable def hpSd (w:Nw) (bs:List Bx) (mr:Nat) (rf:Code × Code) (E:FEnv) (s:List (Option (List Hd)) × Nat):Heap :=
 rdH w bs mr (.ms 10 w.bs.length 0 w.bs.length 1 true) 59++[.row 1 [.ref 6 1 0 0] 0,.row 1 [.t (I 0)] 0,.row 1 ((s.1.map encS).map .t) s.2,.row 6 [.agg (nwA 3 5 w)] 0,lpSd rf E]
theorem q0h {k mr:Nat} {es:List AV} {h:Heap} {p:Nat→Bool} (ha:avoidAll p es=true):frzObj h p (.row k es mr)=some (.row k es mr):=by simp only [frzObj,ha,if_true]
theorem q0a {α:Type} {enc:α→T} {k mr:Nat} {l:List α} {h:Heap} {p:Nat→Bool}:frzObj h p (.row k ((l.map enc).map .t) mr)=some (.row k ((l.map enc).map .t) mr):=q0h q0l
theorem qfL (w:Nw) (bs:List Bx) (mr:Nat) (rf:Code × Code) (E:FEnv) (hE:E 1=.ref 8 1 0 0∧E 2=.ref 9 1 0 0) (s:List (Option (List Hd)) × Nat) (h:Heap) (q:Nat) (hq:13≤q):mapO (frzObj h (fromB q)) (hpSd w bs mr rf E s)=some (hpSd w bs mr rf E s):=by
 have f8:decide (q≤8)=false:=decide_eq_false (by omega)
 have f9:decide (q≤9)=false:=decide_eq_false (by omega)
 have f3:decide (q≤3)=false:=decide_eq_false (by omega)
 have f5:decide (q≤5)=false:=decide_eq_false (by omega)
 have f6:decide (q≤6)=false:=decide_eq_false (by omega)
 have f10:decide (q≤10)=false:=decide_eq_false (by omega)
 have h1:frzObj h (fromB q) (lpSd rf E)=some (lpSd rf E):=by
  rw [lpSd,q0y]
  simp only [go_sem,hE,f8,f9]
 have a1:avoidAll (fromB q) [.agg (nwA 3 5 w)]=true:=by simp [nwA,avoidAll,avoid,fromB,f3,f5]
 have a2:avoidAll (fromB q) [.agg (nwA 3 5 w++[.ms 10 w.bs.length 0 w.bs.length 1 true])]=true:=by simp [nwA,avoidAll,avoid,fromB,f3,f5,f10]
 have a3:avoidAll (fromB q) [.ref 6 1 0 0]=true:=by simp [avoidAll,avoid,fromB,f6]
 have a4:∀ x:T,avoidAll (fromB q) [.t x]=true:=fun x=>by simp [avoidAll,avoid]
 simp only [hpSd,rdH,List.cons_append,List.nil_append,dnRow,bsRow,mapO,h1,q0a,q0h a1,q0h a2,q0h a3,q0h (a4 _)]
theorem qfM (rf:Code × Code) (hrf:rfOf Tryz.prog 59 0=rf) (w:Nw) (bs:List Bx) (mr:Nat) (hbs:bs.length=w.bs.length) (E:FEnv) (hE:E 1=.ref 8 1 0 0∧E 2=.ref 9 1 0 0) (dd nn:Nat) (s:List (Option (List Hd)) × Nat)
  (hs:s.1.length=w.bs.length∧s.2≤w.bs.length) (n:Nat) (x:Bx) (hx:bs[n]? = some x) (hz:x.z=false) (hok:okB x.b=true) (X:Heap) (Q:AV→Heap→Prop)
  (hQ:∀ X',Q (.t (B true)) (hpSd w bs mr rf E (s.1.set n (some (sends x.b)),w.bs.length)++X++X')) :
  oB (inl Tryz.prog pol (ans Tryz.prog pol) nn (dd+1) (.yl 12) [.t (I (n:Nat)),.t (.agg (bxC x))] (hpSd w bs mr rf E s++X)) Q:=by
 subst hrf
 obtain ⟨z,c1,c2,c3,b⟩:=x
 dsimp only at hz hok hQ
 subst hz
 have hbc:bxC ⟨false,c1,c2,c3,b⟩=brC c1 c2 c3 b:=rfl
 rw [hbc]
 have k1:=qfK c1 c2 c3 b hok
 have hn:n < w.bs.length:=by rw [← hbs]; exact (List.getElem?_eq_some_iff.1 hx).1
 have hi:n < s.1.length:=by omega
 have hg:((s.1.map encS).map AV.t)[n]? = some (.t (encS s.1[n])):=q0c (enc:=encS) (by simp [hi])
 have hset:=map_set (enc:=encS) (l:=s.1) (i:=n) (x:=some (sends b))
 have hes:encS (some (sends b))=.sl true 8 (((List.range b.ports.length).map (sentF b (opF b).t)).map encH):=rfl
 rw [hes] at hset
 have hio:(AV.t (encS s.1[n])).isAgg=false:=by cases s.1[n] <;> rfl
 have hco:(AV.t (encS s.1[n])).cells=[.t (encS s.1[n])]:=by cases s.1[n] <;> rfl
 have hl:((s.1.map encS).map AV.t).length=w.bs.length:=by simp [hs.1]
 have hq:=hQ [.row 5 [.t (.agg (brC c1 c2 c3 b))] 1]
 have hs2:=hs.2
 generalize ((List.range b.ports.length).map (sentF b (opF b).t)).map encH=S at *
 simp only [hpSd,rdH,lpSd,List.cons_append,List.nil_append,nwA] at hq ⊢
 rw [← hset] at hq
 generalize (s.1.map encS).map AV.t=L at *
 generalize encS s.1[n]=old at *
 refine oB_yl (E:=tidyF (some [1,2]) E) rfl rfl rfl il59r0a_eq il59r0b_eq ?_
 (repeat' first|simp only [il59r0a,il59r0b,go_sem,hE,k1,hn,hg,hl,hs2,hio,hco,q1w,q1x]|with_reducible refine wX fun _=>?_|((with_reducible refine wY ?_ ?_); rfl)|fail)
 all_goals exact hq
theorem qfN {α:Type} {f:Nat→α} {z:α} {n i:Nat} (h:i < n):(fillL f z n i)[i]? = some z:=by
 rw [fillL,List.getElem?_append_right (by simp)]
 simp only [List.length_map,List.length_range,Nat.sub_self]
 rw [List.getElem?_replicate,if_pos (by omega)]
theorem q2x {α:Type} {f:Nat→α} {z:α} {n i:Nat} (h:i < n) (hz:f i=z):fillL f z n (i+1)=fillL f z n i:=by
 rw [← q0O h (x:=z) hz.symm]
 apply List.ext_getElem?
 intro j
 rw [List.getElem?_set]
 split
 ·rename_i hj
  subst hj
  have hl:=q0V f z (Nat.le_of_lt h)
  rw [qfN h,if_pos (by omega)]
 ·rfl
def okBs (w:Nw) (bs:List Bx):Prop:=bs.length=w.bs.length∧∀ n x,bs[n]? = some x→stA w.t n=false→x.z=false∧okB x.b=true
theorem qfO (w:Nw) (bs:List Bx) (mr:Nat) (hmr:mr≤w.bs.length) (hbs:okBs w bs) (hst:(w.t.station.length:Int)=w.t.nodes) (hbl:(w.bs.length:Int)=w.t.nodes) (hb:w.bs.length≤100) (dd nn:Nat) (hn:200 < nn) (Q:AV→Heap→Prop)
  (hQ:∀ mrs,mrs≤w.bs.length→Q (.t (I 0)) (rdH w bs mr (.ms 10 w.bs.length 0 w.bs.length 1 true) 59++[.row 1 [.ref 6 1 0 0] 0,.row 1 [.t (I 0)] 1,.row 1 ((((List.range w.bs.length).map (sentAt w.t bs)).map encS).map .t) mrs,.row 6 [.agg (nwA 3 5 w)] 0])) :
  oB (inl Tryz.prog pol (ans Tryz.prog pol) nn (dd+3) (.fn 59) [.ref 6 1 0 0] (rdH w bs mr (.t (.sc (.slice none 0 0))) 59)) Q:=by
 have hroom:24*w.bs.length≤roomB:=by rw [Nat.mul_comm]; exact q08 (by omega) (by omega)
 have hbig:w.bs.length≤9223372036854775807:=by omega
 refine q0b il59_eq (Nat.le_of_ble_eq_true rfl) ?_
 simp only [il59c]
 generalize hrf:rfOf Tryz.prog 59 0=rf
 simp only [rdH,nwA]
 (repeat' first|simp only [List.cons_append,List.nil_append,go_sem,hroom,hbig]|with_reducible refine wX fun _=>?_|((with_reducible refine wY ?_ ?_); rfl)|((with_reducible refine q0b il31_eq ?_ ?_); exact Nat.le_of_ble_eq_true rfl; simp only [il31c])|fail)
 have hmap:List.replicate w.bs.length (AV.t (T.sc (Value.slice none 0 0)))=((List.replicate w.bs.length (none:Option (List Hd))).map encS).map .t:=by simp [encS]
 have key:∀ E:FEnv,([.row 6 [.t zN6] 0,.row 3 [.t stepsT] 1,.row 6 [.agg (nwA 3 5 w)] 1,dnRow w,.row 6 [.agg (nwA 3 5 w)] 1,bsRow bs mr,.row 7 [.agg (nwA 3 5 w++[.ms 10 w.bs.length 0 w.bs.length 1 true])] 1,.row 1 [.t (.agg [.fn (.func 59) [] []])] 1,
  .row 1 [.ref 6 1 0 0] 0,.row 1 [.t (I 0)] 0,.row 1 (((List.replicate w.bs.length (none:Option (List Hd))).map encS).map .t) 0,.row 6 [.agg (nwA 3 5 w)] 0,.loop 59 (lpEnv 40 (tidyF (some [1,2]) E)) [23,24] rf.1 rf.2 false none]:Heap)=hpSd w bs mr rf E (List.replicate w.bs.length none,0):=fun E=>rfl
 simp only [nwA,List.cons_append,List.nil_append] at key
 rw [hmap,key]
 obtain ⟨hb1,hb2⟩:=hbs
 have h1213:12 < 13:=by omega
 have h1113:11 < 13:=by omega
 have h513:5 < 13:=by omega
 have h01:0≤1:=by omega
 have hI0:(List.replicate w.bs.length none,0).1=fillL (sentAt w.t bs) none w.bs.length 0∧(List.replicate w.bs.length (none:Option (List Hd)),0).2≤w.bs.length:=⟨(q18 _ _ _).symm,Nat.zero_le _⟩
 with_reducible refine q1Z (fun s=>hpSd w bs mr rf _ s) 13 (fun s=>rfl) (fun s n=>(s.1.set n (some (sends (bs[n]?.getD zBx).b)),w.bs.length)) (dd+1) nn 12 (fun n s=>s.1=fillL (sentAt w.t bs) none w.bs.length n∧s.2≤w.bs.length) w ?_ ?_ h1213 11 3 5 0 h1113 h01 h513 (fun _=>bs) (fun _=>mr) (fun _=>hb1) (fun _=>hmr) (fun _ _=>rfl) (fun _ _=>rfl) hst hbl hb ?_ (List.replicate w.bs.length none,0) hI0 _ hn ?_
 ·intro n s hnb hI
  have hI:s.1=fillL (sentAt w.t bs) none w.bs.length n∧s.2≤w.bs.length:=hI
  show (stS w.t _ s n).1=fillL (sentAt w.t bs) none w.bs.length (n+1)∧(stS w.t _ s n).2≤w.bs.length
  unfold stS
  by_cases hs:stA w.t n=true
  ·rw [if_pos hs,q2x hnb (by rw [sentAt,if_pos hs])]
   exact hI
  ·rw [if_neg hs]
   refine ⟨?_,Nat.le_refl _⟩
   show s.1.set n _=_
   rw [hI.1]
   exact q0O hnb (by rw [sentAt,if_neg hs])
 ·intro s h q hq
  exact qfL w bs mr rf _ (by simp only [go_sem]) s h q hq
 ·intro s n x Q hx hs hI hQ
  have hI:s.1=fillL (sentAt w.t bs) none w.bs.length n∧s.2≤w.bs.length:=hI
  obtain ⟨q1,q2⟩:=hb2 n x hx hs
  have hnl:n < w.bs.length:=by rw [← hb1]; exact (List.getElem?_eq_some_iff.1 hx).1
  refine qfM rf hrf w bs mr hb1 _ (by simp only [go_sem]) dd nn s ⟨by rw [hI.1]; exact q0V _ _ (Nat.le_of_lt hnl),hI.2⟩ n x hx q1 q2 [.row 5 [.t (.agg (bxC x))] 1] Q ?_
  have hQ':∀ X',Q (.t (B true)) (hpSd w bs mr rf _ (s.1.set n (some (sends (bs[n]?.getD zBx).b)),w.bs.length)++[.row 5 [.t (.agg (bxC x))] 1]++X'):=hQ
  rw [hx] at hQ'
  exact hQ'
 ·intro v
  have hfin:∀ (k:Nat),k≤w.bs.length→((List.range k).foldl (stS w.t (fun (s:List (Option (List Hd)) × Nat) n=>(s.1.set n (some (sends (bs[n]?.getD zBx).b)),w.bs.length))) (List.replicate w.bs.length none,0)).1=fillL (sentAt w.t bs) none w.bs.length k∧((List.range k).foldl (stS w.t (fun (s:List (Option (List Hd)) × Nat) n=>(s.1.set n (some (sends (bs[n]?.getD zBx).b)),w.bs.length))) (List.replicate w.bs.length none,0)).2≤w.bs.length:=by
   intro k
   induction k with
   | zero=>intro _; exact hI0
   | succ k ih =>
    intro hk
    have hI:=ih (by omega)
    rw [List.range_succ,List.foldl_append,List.foldl_cons,List.foldl_nil]
    generalize (List.range k).foldl _ _=s at *
    unfold stS
    by_cases hs:stA w.t k=true
    ·rw [if_pos hs,q2x (by omega) (by rw [sentAt,if_pos hs])]
     exact hI
    ·rw [if_neg hs]
     refine ⟨?_,Nat.le_refl _⟩
     show s.1.set k _=_
     rw [hI.1]
     exact q0O (by omega) (by rw [sentAt,if_neg hs])
  obtain ⟨f1,f2⟩:=hfin w.bs.length (Nat.le_refl _)
  have hq:=hQ _ f2
  generalize (List.range w.bs.length).foldl _ _=s at *
  rw [q19] at f1
  rw [← f1] at hq
  change rfEnd _ _ _ v (hpSd w bs mr rf _ s)
  simp only [hpSd,rdH,lpSd,List.cons_append,List.nil_append,nwA,bsRow,dnRow] at hq ⊢
  (repeat' first|simp only [il59c,go_sem,q0a]|with_reducible refine wX fun _=>?_|((with_reducible refine wY ?_ ?_); rfl)|fail)
  all_goals exact hq
end Go.Proofs.YtbibdnlbpjnieaaGreat
namespace Go.Proofs.YtbibdnlbpjnieaaGreat
open Go Go.Abs
theorem qfP {b:Br} (h:okB b=true) {hd:List Hd} (hl:hd.length=b.heard.length) (hx:∀ x∈hd,okH x):okB (putB b hd)=true:=by
 have h0:=q0t h
 have h1:=h
 rw [okB,Bool.and_eq_true,Bool.and_eq_true] at h1
 have h3:=of_decide_eq_true h1.1.2
 simp only [okL] at h0
 rw [okB,Bool.and_eq_true,Bool.and_eq_true,List.all_eq_true]
 refine ⟨⟨decide_eq_true ?_,decide_eq_true h3⟩,?_⟩
 ·simp only [okL,putB]; omega
 ·intro i hi
  simp only [putB,List.mem_range] at hi
  have h2:=q1X h hi
  simp only [okAt,decide_eq_true_eq] at h2 ⊢
  refine ⟨h2.1,h2.2.1,h2.2.2.1,?_⟩
  obtain ⟨x,hx'⟩:∃ x,hd[i]? = some x:=⟨hd[i]'(by omega),by simp⟩
  simp only [hrd,putB,hx',Option.getD_some]
  exact hx x (List.mem_of_getElem? hx')
theorem qfQ {h:Hd} (hk:okH h):okH (tickH h):=by
 unfold tickH
 by_cases q:h.is=false
 ·rw [if_pos q]; exact hk
 ·have q':h.is=true:=by simpa using q
  rw [if_neg q]
  have h1:=hk.1 q'
  by_cases q2:20 < h.g+1
  ·rw [if_pos q2]; exact ⟨(fun h=>(by cases h)),fun _=>rfl⟩
  ·rw [if_neg q2]
   refine ⟨fun _=>?_,fun h=>?_⟩
   ·simp only [helloP] at h1 ⊢; exact ⟨h1.1,by omega⟩
   ·simp only at h; rw [q'] at h; exact (by cases h)
theorem qfR {h:Hd} (hk:helloP h):okH (heardAs h):=⟨fun _=>hk,(fun h=>(by cases h))⟩
theorem qfS {o h:Hd} (ho:okH o) (hk:helloP h):okH (rcvH o h):=by
 unfold rcvH
 split
 ·exact qfR hk
 ·exact ho
end Go.Proofs.YtbibdnlbpjnieaaGreat
namespace Go.Proofs.YtbibdnlbpjnieaaGreat
open Go Go.Abs
def bk (p:Nat):Nat:=if p % 2=0 then p+1 else p - 1
theorem bk_lt {p L:Nat} (h:p < 2*L):bk p < 2*L:=by unfold bk; split <;> omega
theorem q6t (p:Nat):bk p / 2=p / 2:=by unfold bk; split <;> omega
theorem bk_bk (p:Nat):bk (bk p)=p:=by unfold bk; split <;> split <;> omega
theorem bk_fr (t:Tpo) (p:Nat):frP t (bk p)=toP t p:=by
 unfold frP toP
 rw [q6t]
 have:bk p % 2=0↔¬ p % 2=0:=by unfold bk; split <;> omega
 by_cases h:p % 2=0
 ·rw [if_neg (by rw [this]; simpa using h),if_pos h]
 ·rw [if_pos (this.2 h),if_neg h]
theorem bk_to (t:Tpo) (p:Nat):toP t (bk p)=frP t p:=by rw [← bk_fr,bk_bk]
theorem xor1 (p:Nat) (h:p < 48):i64xor (p:Int) 1=((bk p:Nat):Int):=by
 have:∀ q:Fin 48,i64xor ((q.1:Nat):Int) 1=((bk q.1:Nat):Int):=by decide +kernel
 exact this ⟨p,h⟩
def ixP (t:Tpo) (p:Nat):Nat:=(idxL (ofN p) 0 ((trunkL t (frP t p)).map ofN)).toNat
theorem q3C {α:Type} [DecidableEq α] {v:α}:∀ {l:List α} {i:Nat},v∈l→∃ j,j < l.length∧l[j]? = some v∧idxL v i l=((i+j:Nat):Int):=by
 intro l
 induction l with
 | nil=>intro i h; cases h
 | cons x l ih =>
  intro i h
  rw [idxL]
  by_cases hx:x=v
  ·rw [if_pos hx]; exact ⟨0,by simp,by simp [hx],rfl⟩
  ·rw [if_neg hx]
   have:v∈l:=by
    cases h with
    | head=>exact absurd rfl hx
    | tail _ h=>exact h
   obtain ⟨j,h1,h2,h3⟩:=ih (i:=i+1) this
   exact ⟨j+1,by simp; omega,by simpa using h2,by rw [h3]; congr 1; omega⟩
theorem q0X {t:Tpo} {p:Nat} (h:p∈trunkL t (frP t p)):ixP t p < (trunkL t (frP t p)).length∧(trunkL t (frP t p))[ixP t p]? = some p∧idxL (ofN p) 0 ((trunkL t (frP t p)).map ofN)=((ixP t p:Nat):Int):=by
 obtain ⟨j,h1,h2,h3⟩:=q3C (v:=ofN p) (i:=0) (List.mem_map_of_mem (f:=ofN) h)
 have hj:ixP t p=j:=by rw [ixP,h3]; omega
 rw [hj]
 refine ⟨by simpa using h1,?_,by rw [h3]; congr 1; omega⟩
 rw [List.getElem?_map,Option.map_eq_some_iff] at h2
 obtain ⟨q,hq,hqp⟩:=h2
 have:q=p:=by simp only [ofN] at hqp; omega
 rw [hq,this]
theorem qij {t:Tpo} {n:Int} {p:Nat}:p∈trunkL t n↔p < 2*t.links.length∧frP t p=n∧stA t (toP t p).toNat=false:=by
 simp [trunkL,portsL,List.mem_filter,innP,and_assoc]
 exact fun _=>And.comm
structure VB (w:Nw) (n:Nat) (b:Br):Prop where
 ok:okB b=true
 ip:b.p=prA w n
 id:b.n=(n:Nat)
 ports:b.ports=(trunkL w.t n).map ofN
 costs:b.costs=costL w.t n
def vBs (w:Nw) (bs:List Bx):Prop:=bs.length=w.bs.length∧∀ n x,bs[n]? = some x→stA w.t n=false→x.z=false∧VB w n x.b
def rcvB (b:Br) (i:Nat) (h:Hd):Bx:=⟨false,true,true,true,putB b (b.heard.set i (rcvH (hrd b i) h))⟩
def rcvP (w:Nw) (bs:List Bx) (p:Nat) (h:Hd):List Bx :=
 if h.is=true∧dnA w (p / 2)=false then bs.set (toP w.t p).toNat (rcvB (bs[(toP w.t p).toNat]?.getD zBx).b (ixP w.t (bk p)) h) else bs
def rcvQ (w:Nw) (s:List Bx × Nat) (p:Nat) (h:Hd):List Bx × Nat:=(rcvP w s.1 p h,if h.is=true∧dnA w (p / 2)=false then w.bs.length else s.2)
theorem q3D {b:Br} (h:okB b=true):∀ x∈b.heard,okH x:=fun x hx=>q3v h hx
theorem qfT {b:Br} (h:okB b=true) (i:Nat):okH (hrd b i):=by
 simp only [hrd]
 cases hq:b.heard[i]? with
 | none=>exact ⟨fun h=>((by cases h)),fun _=>rfl⟩
 | some x=>exact q3v h (List.mem_of_getElem? hq)
theorem VB.put {w:Nw} {n:Nat} {b:Br} (h:VB w n b) {hd:List Hd} (hl:hd.length=b.heard.length) (hx:∀ x∈hd,okH x):VB w n (putB b hd):=⟨qfP h.ok hl hx,h.ip,h.id,h.ports,h.costs⟩
theorem VB.rcv {w:Nw} {n:Nat} {b:Br} (h:VB w n b) (i:Nat) {m:Hd} (hm:helloP m):VB w n (putB b (b.heard.set i (rcvH (hrd b i) m))):=by
 refine h.put (by simp) fun x hx=>?_
 rcases List.mem_or_eq_of_mem_set hx with h1|rfl
 ·exact q3D h.ok x h1
 ·exact qfS (qfT h.ok i) hm
theorem q3E {w:Nw} {bs:List Bx} (h:vBs w bs) {p:Nat} {m:Hd} (hm:m.is=true→helloP m) (hp:stA w.t (toP w.t p).toNat=false):vBs w (rcvP w bs p m):=by
 unfold rcvP
 split
 ·rename_i hc
  refine ⟨by simpa using h.1,fun n x hx hs=>?_⟩
  rw [List.getElem?_set] at hx
  split at hx
  ·rename_i hn
   split at hx
   ·rename_i hlt
    obtain rfl:=Option.some.inj hx
    obtain ⟨y,hy⟩:∃ y,bs[(toP w.t p).toNat]? = some y:=⟨bs[(toP w.t p).toNat]'(hlt),by simp [hlt]⟩
    obtain ⟨_,hv⟩:=h.2 _ y hy hp
    rw [hy,← hn]
    exact ⟨rfl,hv.rcv _ (hm hc.1)⟩
   ·cases hx
  ·exact h.2 n x hx hs
 ·exact h
noncomputable def lpRc (rf:Code × Code) (E:FEnv) (busy:Bool):AObj:=.loop 60 (lpEnv 100 (tidyF (some [1,2]) E)) [17,18] rf.1 rf.2 busy none
noncomputable def hpRc (w:Nw) (sent:T) (rf:Code × Code) (E:FEnv) (busy:Bool) (s:List Bx × Nat):Heap :=
 rdH w s.1 s.2 (.t sent) 60++[.row 1 [.ref 6 1 0 0] 0,.row 1 [.t (I 0)] 0,.row 6 [.agg (nwA 3 5 w)] 0,lpRc rf E busy]
theorem qfU (w:Nw) (sent:T) (rf:Code × Code) (E:FEnv) (hE:E 1=.ref 8 1 0 0∧E 2=.ref 9 1 0 0) (busy:Bool) (s:List Bx × Nat) (h:Heap) (q:Nat) (hq:12≤q):mapO (frzObj h (fromB q)) (hpRc w sent rf E busy s)=some (hpRc w sent rf E busy s):=by
 have f8:decide (q≤8)=false:=decide_eq_false (by omega)
 have f9:decide (q≤9)=false:=decide_eq_false (by omega)
 have f3:decide (q≤3)=false:=decide_eq_false (by omega)
 have f5:decide (q≤5)=false:=decide_eq_false (by omega)
 have f6:decide (q≤6)=false:=decide_eq_false (by omega)
 have h1:frzObj h (fromB q) (lpRc rf E busy)=some (lpRc rf E busy):=by
  rw [lpRc,q0y]
  simp only [go_sem,hE,f8,f9]
 have a1:avoidAll (fromB q) [.agg (nwA 3 5 w)]=true:=by simp [nwA,avoidAll,avoid,fromB,f3,f5]
 have a2:avoidAll (fromB q) [.agg (nwA 3 5 w++[.t sent])]=true:=by simp [nwA,avoidAll,avoid,fromB,f3,f5]
 have a3:avoidAll (fromB q) [.ref 6 1 0 0]=true:=by simp [avoidAll,avoid,fromB,f6]
 have a4:∀ x:T,avoidAll (fromB q) [.t x]=true:=fun x=>by simp [avoidAll,avoid]
 simp only [hpRc,rdH,List.cons_append,List.nil_append,dnRow,bsRow,mapO,h1,q0a,q0h a1,q0h a2,q0h a3,q0h (a4 _)]
theorem q6u {α β:Type} {f g:β→α→β}:∀ (l:List α) (s:β),(∀ s,∀ a∈l,f s a=g s a)→l.foldl f s=l.foldl g s:=by
 intro l
 induction l with
 | nil=>intro s _; rfl
 | cons a l ih=>intro s h; rw [List.foldl_cons,List.foldl_cons,h s a (by simp)]; exact ih _ (fun s b hb=>h s b (by simp [hb]))
theorem qfV (w:Nw) (hok:okT w.t=true) (hd:w.down.length=w.t.links.length) (hbl:(w.bs.length:Int)=w.t.nodes) (sent:T) (rf:Code × Code) (E:FEnv) (hE:E 1=.ref 8 1 0 0∧E 2=.ref 9 1 0 0) (c1 c2 c3:Bool) (b:Br) (n:Nat) (hpo:b.ports=(trunkL w.t n).map ofN) (hnn:stA w.t n=false)
  (hs:List Hd) (hl:hs.length=(trunkL w.t n).length) (hh:∀ h∈hs,h.is=true→helloP h) (s:List Bx × Nat) (hv:vBs w s.1) (hmr:s.2≤w.bs.length) (dd nn:Nat) (hn:200 < nn) (R:Xit→FEnv→Heap→Prop) (e:FEnv)
  (he:e 1=.ref 8 1 0 0∧e 2=.ref 9 1 0 0∧e 4=.ref 13 1 0 0∧e 25=.t (.sl true 8 (hs.map encH))∧e 26=.t (I (hs.length:Nat))∧e 27=.t (I 0))
  (hR:∀ e,(e 1=.ref 8 1 0 0∧e 2=.ref 9 1 0 0)→R (.exit 2) e (hpRc w sent rf E true ((List.range hs.length).foldl (fun s i=>rcvQ w s ((trunkL w.t n)[i]?.getD 0) (hs[i]?.getD zH)) s)++[.row 5 [.t (.agg (brC c1 c2 c3 b))] 1,.row 5 [.t (.agg (brC c1 c2 c3 b))] 1])) :
  wpIter 14 (some [1,2,4,25,26,27]) (wc Tryz.prog pol (ans Tryz.prog pol) (inl Tryz.prog pol (ans Tryz.prog pol) nn dd) nn 60 il60l0) R nn e (hpRc w sent rf E true s++[.row 5 [.t (.agg (brC c1 c2 c3 b))] 1,.row 5 [.t (.agg (brC c1 c2 c3 b))] 1]):=by
 obtain ⟨z1,z2,z3⟩:=q02 hok
 refine q06 hs encH (step:=fun i h s=>.go (rcvQ w s ((trunkL w.t n)[i]?.getD 0) h)) (fin:=id)
  (St:=fun i s e h=>(e 1=.ref 8 1 0 0∧e 2=.ref 9 1 0 0∧e 4=.ref 13 1 0 0∧e 25=.t (.sl true 8 (hs.map encH))∧e 26=.t (I (hs.length:Nat))∧e 27=.t (I (i:Nat)))∧(vBs w s.1∧s.2≤w.bs.length)∧h=hpRc w sent rf E true s++[.row 5 [.t (.agg (brC c1 c2 c3 b))] 1,.row 5 [.t (.agg (brC c1 c2 c3 b))] 1])
  (Ex:=fun s x e h=>(e 1=.ref 8 1 0 0∧e 2=.ref 9 1 0 0)∧x=.exit 2∧h=hpRc w sent rf E true s++[.row 5 [.t (.agg (brC c1 c2 c3 b))] 1,.row 5 [.t (.agg (brC c1 c2 c3 b))] 1]) (s:=s) (by have:=q1Y w.t n; omega) ?_ ?_ (by have:=q1Y w.t n; omega) ⟨he,⟨hv,hmr⟩,rfl⟩ ?_
 ·intro i h ss e hp Y R hm hi hx hget hlt hw ⟨hs',⟨hv,hmr⟩,hhp⟩ hk
  subst hhp
  obtain ⟨s,mr⟩:=ss
  dsimp only at hv hmr
  simp only [q01] at hk
  obtain ⟨p,hp⟩:∃ p,(trunkL w.t n)[i]? = some p:=⟨(trunkL w.t n)[i]'(by omega),by simp [show i < (trunkL w.t n).length by omega]⟩
  rw [hp] at hk
  simp only [Option.getD_some] at hk
  have hpm:=qij.1 (List.mem_of_getElem? hp)
  obtain ⟨p1,p2,p3⟩:=hpm
  have gp:(b.ports.map I)[i]? = some (I (ofN p)):=by rw [hpo]; simp [hp]
  have hj:p / 2 < w.down.length:=by omega
  have gd:((w.down.map B).map AV.t)[p / 2]? = some (.t (B (dnA w (p / 2)))):=q0c (enc:=B) (by simp [dnA,hj])
  have v2:IntKind.i64.wrap (Int.tdiv (p:Nat) 2)=((p / 2:Nat):Int):=by rw [tdiv2]; exact q09 (by omega) (by omega)
  have fzl:∀ hx:Heap,frzObj hx (fromB 14) (lpRc rf E true)=some (lpRc rf E true):=fun hx=>by
   rw [lpRc,q0y]
   simp only [go_sem,hE]
  have hdl:((w.down.map B).map AV.t).length=w.down.length:=by simp
  simp only [hpRc,rdH,List.cons_append,List.nil_append,nwA,bsRow,dnRow] at hk ⊢
  cases his:h.is with
  | false =>
   have hr:rcvQ w (s,mr) p h=(s,mr):=by rw [rcvQ,if_neg (by simp [his]),rcvP,if_neg (by simp [his])]
   rw [hr] at hk
   obtain ⟨hi0,h1,h2,h3,h4,h5,h6,h7⟩:=h
   dsimp only at his
   subst his
   (repeat' first|simp only [il60l0_go,il60l0b,go_sem,hs',hget,q05,hlt,hw,gp,ofN,q0a,fzl]|with_reducible refine wX fun _=>?_|((with_reducible refine wY ?_ ?_); rfl)|fail)
   all_goals (refine hk _ _ ⟨?_,⟨hv,hmr⟩,?_⟩ <;> simp only [go_sem,hs',hw])
  | true =>
   cases hdn:dnA w (p / 2) with
   | true =>
    have hr:rcvQ w (s,mr) p h=(s,mr):=by rw [rcvQ,if_neg (by simp [hdn]),rcvP,if_neg (by simp [hdn])]
    rw [hr] at hk
    rw [hdn] at gd
    obtain ⟨hi0,h1,h2,h3,h4,h5,h6,h7⟩:=h
    dsimp only at his
    subst his
    (repeat' first|simp only [il60l0_go,il60l0b,go_sem,hs',hget,q05,hlt,hw,gp,ofN,v2,gd,hj,hdl,q0a,fzl]|with_reducible refine wX fun _=>?_|((with_reducible refine wY ?_ ?_); rfl)|fail)
    all_goals (refine hk _ _ ⟨?_,⟨hv,hmr⟩,?_⟩ <;> simp only [go_sem,hs',hw])
   | false =>
    rw [hdn] at gd
    have hhp:=hh h hm his
    obtain ⟨q1,q2⟩:=q0v hok p1
    obtain ⟨m,hmn⟩:∃ m:Nat,toP w.t p=(m:Nat):=⟨(toP w.t p).toNat,by omega⟩
    have hmN:(toP w.t p).toNat=m:=by omega
    rw [hmN] at p3
    have hml:m < w.bs.length:=by omega
    obtain ⟨y,hy⟩:∃ y,s[m]? = some y:=⟨s[m]'(by rw [hv.1]; exact hml),by simp [hv.1,hml]⟩
    obtain ⟨yz,yv⟩:=hv.2 m y hy p3
    have hrq:rcvQ w (s,mr) p h=(rcvP w s p h,w.bs.length):=by rw [rcvQ,if_pos ⟨his,hdn⟩]
    rw [hrq] at hk
    have hv':=q3E (p:=p) (m:=h) hv (hh h hm) (by rw [hmN]; exact p3)
    have hrc:rcvP w s p h=s.set m (rcvB y.b (ixP w.t (bk p)) h):=by rw [rcvP,if_pos ⟨his,hdn⟩,hmN,hy]; rfl
    have hbk:bk p∈trunkL w.t (frP w.t (bk p)):=qij.2 ⟨bk_lt p1,rfl,by rw [bk_to,p2]; simpa using hnn⟩
    obtain ⟨x1,x2,x3⟩:=q0X hbk
    rw [bk_fr,hmn] at x1 x3
    have k2:=q1B ⟨false,false,false,false,true⟩ ⟨w.t,w.prios,w.down,s⟩ p hok p1
    rw [hmn] at k2
    obtain ⟨yz',d1,d2,d3,yb⟩:=y
    dsimp only at yz yv hrc
    subst yz
    have hyp:=yv.ports
    have k3:=q6g d1 yb.ports (ofN (bk p)) (by rw [hyp]; have:=q1Y w.t m; simp; omega)
    have hidx:idxL (ofN (bk p)) 0 yb.ports=((ixP w.t (bk p):Nat):Int):=by rw [hyp]; exact x3
    rw [hidx] at k3
    have hix:ixP w.t (bk p) < yb.ports.length:=by rw [hyp]; simpa using x1
    have k4:=qfc d1 d2 d3 yb (ixP w.t (bk p)) h yv.ok hix hhp
    have gx:((s.map encX).map AV.t)[m]? = some (.t (.agg (brC d1 d2 d3 yb))):=q0c (enc:=encX) hy
    have hsl:((s.map encX).map AV.t).length=w.bs.length:=by simp [hv.1]
    have hset:=map_set (enc:=encX) (l:=s) (i:=m) (x:=rcvB yb (ixP w.t (bk p)) h)
    rw [← hrc] at hset
    have hex:encX (rcvB yb (ixP w.t (bk p)) h)=brT true true true (putB yb (yb.heard.set (ixP w.t (bk p)) (rcvH (hrd yb (ixP w.t (bk p))) h))):=rfl
    rw [hex] at hset
    have hx1:=xor1 p (by omega)
    have hav:∀ (q:Nat→Bool) (y:T),avoidAll q (((s.map encX).map AV.t).set m (.t y))=true:=fun q y=>by rw [← List.map_set,q0l]
    rw [← hset] at hk
    generalize putB yb (yb.heard.set (ixP w.t (bk p)) (rcvH (hrd yb (ixP w.t (bk p))) h))=B' at *
    generalize ixP w.t (bk p)=ix at *
    obtain ⟨hi0,h1,h2,h3,h4,h5,h6,h7⟩:=h
    dsimp only at his
    subst his
    (repeat' first|simp only [il60l0_go,il60l0b,go_sem,hs',hget,q05,hlt,hw,gp,ofN,v2,gd,hj,hdl,hsl,k2,k3,k4,gx,hml,hmr,hx1,hav,q0a,fzl]|with_reducible refine wX fun _=>?_|((with_reducible refine wY ?_ ?_); rfl)|fail)
    all_goals (refine hk _ _ ⟨?_,⟨hv',Nat.le_refl _⟩,?_⟩ <;> simp only [go_sem,hs',hw])
 ·intro s e h Y R hlt ⟨hs',_,hh⟩ hk
  subst hh
  (repeat' first|simp only [il60l0_go,il60l0b,go_sem,hs',hlt]|with_reducible refine wX fun _=>?_|((with_reducible refine wY ?_ ?_); rfl)|fail)
  all_goals (refine hk _ _ _ ⟨?_,rfl,rfl⟩; simp only [go_sem,hs',id])
 ·intro x e h ⟨h1,h2,h3⟩
  have hf:∀ (r:List Hd) (i:Nat) (s:List Bx × Nat),foldC (ρ:=List Bx × Nat) (fun i h s=>Ctl.go (rcvQ w s ((trunkL w.t n)[i]?.getD 0) h)) id i r s=(List.range' i r.length).foldl (fun s k=>rcvQ w s ((trunkL w.t n)[k]?.getD 0) (r[k - i]?.getD zH)) s:=by
   intro r
   induction r with
   | nil=>intro i s; rfl
   | cons x r ih =>
    intro i s
    rw [q07 (s':=rcvQ w s ((trunkL w.t n)[i]?.getD 0) x) rfl,ih,List.length_cons,List.range'_succ,List.foldl_cons]
    simp only [Nat.sub_self,List.getElem?_cons_zero,Option.getD_some]
    refine q6u _ _ fun s k hk=>?_
    rw [List.mem_range'_1] at hk
    obtain ⟨j,rfl⟩:∃ j,k=i+1+j:=⟨k - (i+1),by omega⟩
    rw [show i+1+j - (i+1)=j by omega,show i+1+j - i=j+1 by omega,List.getElem?_cons_succ]
  rw [hf,← List.range_eq_range'] at h3
  simp only [Nat.sub_zero] at h3
  subst h2 h3
  exact hR _ h1
end Go.Proofs.YtbibdnlbpjnieaaGreat
namespace Go.Proofs.YtbibdnlbpjnieaaGreat
open Go Go.Abs
theorem q3F {t:Tpo} {p:Nat} (hp:p < 2*t.links.length):(t.links.map encK)[p / 2]? = some (lkT (lnk t (p / 2))):=by
 have hi:p / 2 < t.links.length:=by omega
 simp [lnk,hi,encK]
theorem q1h {p L:Nat} (hp:p < 2*L) (hL:L≤1000):IntKind.i64.wrap (Int.tdiv ((p:Nat):Int) 2)=((p / 2:Nat):Int):=by rw [tdiv2]; exact q09 (by omega) (by omega)
theorem q1i (c1 c2:Bool) (t:Tpo) (p:Nat) (hp:p < 2*t.links.length) (hL:t.links.length≤1000):ans Tryz.prog pol 49 [tpT c1 c2 t,I (p:Nat)]=some (I (frP t p)):=by
 have m:=tmod2 p
 have v:=q1h hp hL
 have g:=q3F hp
 rw [frP]
 generalize lnk t (p / 2)=l at *
 refine q00 1 1 il49_eq (Nat.le_of_ble_eq_true rfl) ?_
 by_cases h:p % 2=0
 ·rw [if_pos h]
  have d:decide (((p % 2:Nat):Int)=1)=false:=decide_eq_false (by omega)
  (repeat' first|simp only [il49c,go_sem,m,v,g,d]|with_reducible refine wX fun _=>?_|((with_reducible refine wY ?_ ?_); rfl)|fail)
 ·rw [if_neg h]
  have d:decide (((p % 2:Nat):Int)=1)=true:=decide_eq_true (by omega)
  (repeat' first|simp only [il49c,go_sem,m,v,g,d]|with_reducible refine wX fun _=>?_|((with_reducible refine wY ?_ ?_); rfl)|fail)
theorem q1j (c1 c2:Bool) (t:Tpo) (p:Nat) (hp:p < 2*t.links.length) (hL:t.links.length≤1000):ans Tryz.prog pol 54 [tpT c1 c2 t,I (p:Nat)]=some (I (toP t p)):=by
 have m:=tmod2 p
 have v:=q1h hp hL
 have g:=q3F hp
 rw [toP]
 generalize lnk t (p / 2)=l at *
 refine q00 1 1 il54_eq (Nat.le_of_ble_eq_true rfl) ?_
 by_cases h:p % 2=0
 ·rw [if_pos h]
  have d:decide (((p % 2:Nat):Int)=1)=false:=decide_eq_false (by omega)
  (repeat' first|simp only [il54c,go_sem,m,v,g,d]|with_reducible refine wX fun _=>?_|((with_reducible refine wY ?_ ?_); rfl)|fail)
 ·rw [if_neg h]
  have d:decide (((p % 2:Nat):Int)=1)=true:=decide_eq_true (by omega)
  (repeat' first|simp only [il54c,go_sem,m,v,g,d]|with_reducible refine wX fun _=>?_|((with_reducible refine wY ?_ ?_); rfl)|fail)
theorem q2y (c1 c2:Bool) (t:Tpo) (p:Nat) (hp:p < 2*t.links.length) (hL:t.links.length≤1000):ans Tryz.prog pol 84 [tpT c1 c2 t,I (p:Nat)]=some (I (perP t p)):=by
 have v:=q1h hp hL
 have g:=q3F hp
 rw [perP]
 generalize lnk t (p / 2)=l at *
 refine q00 1 1 il84_eq (Nat.le_of_ble_eq_true rfl) ?_
 (repeat' first|simp only [il84c,go_sem,v,g]|with_reducible refine wX fun _=>?_|((with_reducible refine wY ?_ ?_); rfl)|fail)
theorem q3G (p:Nat) (hp:p≤1000):ans Tryz.prog pol 57 [I (p:Nat)]=some (I ((bk p:Nat):Int)):=by
 have m:=tmod2 p
 rw [bk]
 refine q00 1 1 il57_eq (Nat.le_of_ble_eq_true rfl) ?_
 by_cases h:p % 2=0
 ·rw [if_pos h]
  have d:decide (((p % 2:Nat):Int)=1)=false:=decide_eq_false (by omega)
  have v:IntKind.i64.wrap (((p:Nat):Int)+1)=((p+1:Nat):Int):=q09 (by omega) (by omega)
  (repeat' first|simp only [il57c,go_sem,m,d,v]|with_reducible refine wX fun _=>?_|((with_reducible refine wY ?_ ?_); rfl)|fail)
 ·rw [if_neg h]
  have d:decide (((p % 2:Nat):Int)=1)=true:=decide_eq_true (by omega)
  have v:IntKind.i64.wrap (((p:Nat):Int) - 1)=((p - 1:Nat):Int):=by rw [q09 (by omega) (by omega)]; omega
  (repeat' first|simp only [il57c,go_sem,m,d,v]|with_reducible refine wX fun _=>?_|((with_reducible refine wY ?_ ?_); rfl)|fail)
def keepS (q:Nat→Bool) (o:List Nat) (p:Nat):List Nat:=if q p=true then o++[p] else o
theorem q3H (q:Nat→Bool):∀ (l:List Nat) (o:List Nat),l.foldl (keepS q) o=o++l.filter q:=by
 intro l
 induction l with
 | nil=>intro o; simp
 | cons p l ih =>
  intro o
  rw [List.foldl_cons,ih,List.filter_cons]
  by_cases h:q p=true
  ·simp [keepS,h]
  ·simp [keepS,h]
theorem qfW {σ:Type} {f:σ→Nat→σ}:∀ (n i:Nat) (s:σ),foldC (ρ:=σ) (fun i (_:Unit) s=>Ctl.go (f s i)) id i (List.replicate n ()) s=(List.range' i n).foldl f s:=by
 intro n
 induction n with
 | zero=>intro i s; rfl
 | succ n ih=>intro i s; rw [List.replicate_succ,q07 (s':=f s i) rfl,ih,List.range'_succ,List.foldl_cons]
theorem q6v (c1 c2:Bool) (t:Tpo) (n:Nat) (hL:t.links.length≤1000):ans Tryz.prog pol 118 [tpT c1 c2 t,I (n:Nat)]=some (.sl false 1 (((portsL t n).map ofN).map I)):=by
 have v0:IntKind.i64.wrap (2*(t.links.length:Nat))=((2*t.links.length:Nat):Int):=by rw [q09 (by omega) (by omega)]; omega
 refine q00 3000 1 il118_eq (Nat.le_of_ble_eq_true rfl) ?_
 (repeat' first|simp only [il118c,go_sem]|with_reducible refine wX fun _=>?_|((with_reducible refine wY ?_ ?_); rfl)|fail)
 refine q0r (2*t.links.length) (step:=fun p (o:List Nat)=>.go (keepS (fun p=>decide (frP t p=(n:Nat))) o p)) (fin:=id)
  (St:=fun p o e h=>(e 1=.t (I (n:Nat))∧e 2=.t (.ip (tpC c1 c2 t))∧e 5=.ms 0 o.length 0 o.length 1 false∧e 6=.t (I (p:Nat)))∧o.length≤p∧h=[rowG 1 I (o.map ofN)])
  (Ex:=fun o x e h=>e 5=.ms 0 o.length 0 o.length 1 false∧x=.exit 0∧h=[rowG 1 I (o.map ofN)]) (s:=[]) (by omega) ?_ ?_ (by omega) ?_ ?_
 ·intro p o e h Y R hp hlt hw ⟨hs,hl,hh⟩ hk
  subst hh
  simp only [q01] at hk
  have k1:=q1i c1 c2 t p hp hL
  have hroom:(o.length+1)*8≤roomB:=q08 (by omega) (by omega)
  have hlm:(o.map ofN).length=o.length:=List.length_map ..
  have his:rowIs 1 o.length (some (rowG 1 I (o.map ofN))):=by have:=q0g (k:=1) (enc:=I) (l:=o.map ofN); rwa [hlm] at this
  by_cases q:frP t p=(n:Nat)
  ·have d:decide (frP t p=(n:Nat))=true:=decide_eq_true q
   simp only [keepS,d,if_true] at hk
   (repeat' first|simp only [il118l0_go,il118l0b,go_sem,hs,hlt,hw,v0,k1,d,hroom,his,q0d,q0e]|with_reducible refine wX fun _=>?_|((with_reducible refine wY ?_ ?_); rfl)|fail)
   all_goals refine hk _ _ ⟨?_,by simp; omega,?_⟩
   ·simp only [go_sem,hs,hw,List.length_append]
   ·simp [rowG]
  ·have d:decide (frP t p=(n:Nat))=false:=decide_eq_false q
   simp only [keepS,d,Bool.false_eq_true,if_false] at hk
   (repeat' first|simp only [il118l0_go,il118l0b,go_sem,hs,hlt,hw,v0,k1,d]|with_reducible refine wX fun _=>?_|((with_reducible refine wY ?_ ?_); rfl)|fail)
   all_goals (refine hk _ _ ⟨?_,by omega,rfl⟩; simp only [go_sem,hs,hw])
 ·intro o e h Y R hlt ⟨hs,hl,hh⟩ hk
  subst hh
  (repeat' first|simp only [il118l0_go,il118l0b,go_sem,hs,hlt,v0]|with_reducible refine wX fun _=>?_|((with_reducible refine wY ?_ ?_); rfl)|fail)
  all_goals (refine hk _ _ _ ⟨?_,rfl,rfl⟩; simp only [go_sem,hs,id])
 ·refine ⟨?_,by simp,rfl⟩
  simp only [go_sem]
 ·intro x e h ⟨h1,h2,h3⟩
  rw [qfW,q3H,List.nil_append,← List.range_eq_range',show List.filter (fun p=>decide (frP t p=(n:Nat))) (List.range (2*t.links.length))=portsL t n from rfl] at h1 h3
  generalize portsL t n=o at *
  subst h2 h3
  (repeat' first|simp only [il118c,q1V,go_sem,h1]|with_reducible refine wX fun _=>?_|((with_reducible refine wY ?_ ?_); rfl)|fail)
theorem q3I (c1 c2:Bool) (t:Tpo) (p:Nat) (h:okT t=true) (hp:p < 2*t.links.length):ans Tryz.prog pol 119 [tpT c1 c2 t,I (p:Nat)]=some (B (!stA t (frP t p).toNat && !stA t (toP t p).toNat)):=by
 obtain ⟨z1,z2,z3⟩:=q02 h
 have k1:=q1i c1 c2 t p hp (by omega)
 have k2:=q1j c1 c2 t p hp (by omega)
 obtain ⟨g1,q1⟩:=q0A t z2 (q0D h hp)
 obtain ⟨g2,q2⟩:=q0A t z2 (q0v h hp)
 generalize frP t p=A at *
 generalize toP t p=C at *
 refine q00 1 1 il119_eq (Nat.le_of_ble_eq_true rfl) ?_
 cases hs:stA t A.toNat with
 | true =>
  rw [hs] at g1
  (repeat' first|simp only [il119c,go_sem,k1,k2,g1,q1]|with_reducible refine wX fun _=>?_|((with_reducible refine wY ?_ ?_); rfl)|fail)
 | false =>
  rw [hs] at g1
  (repeat' first|simp only [il119c,go_sem,k1,k2,g1,q1,g2,q2]|with_reducible refine wX fun _=>?_|((with_reducible refine wY ?_ ?_); rfl)|fail)
theorem qfX (c:Bool) (l:List Int) (v:Int) (hl:l.length≤900):ans Tryz.prog pol 51 [.sl c 1 (l.map I),I v]=some (I (idxL v 0 l)):=by
 refine q00 1000 1 il51_eq (Nat.le_of_ble_eq_true rfl) ?_
 (repeat' first|simp only [il51c,go_sem]|with_reducible refine wX fun _=>?_|((with_reducible refine wY ?_ ?_); rfl)|fail)
 refine q06 l I (step:=fun i x (_:Unit)=>if x=v then Ctl.out ((i:Nat):Int) else Ctl.go ()) (fin:=fun _=>-1)
  (St:=fun i _ e h=>(e 0=.t (.sl c 1 (l.map I))∧e 1=.t (I v)∧e 5=.t (I (i:Nat)))∧h=[])
  (Ex:=fun r x e h=>r = -1∧x=.exit 0∨x=.ret∧e 4=.t (I r)) (s:=()) (by omega) ?_ ?_ (by omega) ?_ ?_
 ·intro i x _ e h Y R hm hi hx hget hlt hw ⟨hs,hh⟩ hk
  subst hh
  by_cases q:x=v
  ·have d:decide (x=v)=true:=decide_eq_true q
   rw [if_pos q,q04] at hk
   (repeat' first|simp only [il51l0_go,il51l0b,go_sem,hs,hget,hlt,d]|with_reducible refine wX fun _=>?_|((with_reducible refine wY ?_ ?_); rfl)|fail)
   all_goals (refine hk _ _ _ (.inr ?_); simp only [go_sem,hs,and_self])
  ·have d:decide (x=v)=false:=decide_eq_false q
   rw [if_neg q,q01] at hk
   (repeat' first|simp only [il51l0_go,il51l0b,go_sem,hs,hget,hlt,hw,d]|with_reducible refine wX fun _=>?_|((with_reducible refine wY ?_ ?_); rfl)|fail)
   all_goals (refine hk _ _ ⟨?_,rfl⟩; simp only [go_sem,hs,hw])
 ·intro _ e h Y R hlt ⟨hs,hh⟩ hk
  subst hh
  (repeat' first|simp only [il51l0_go,il51l0b,go_sem,hs,hlt]|with_reducible refine wX fun _=>?_|((with_reducible refine wY ?_ ?_); rfl)|fail)
  all_goals (refine hk _ _ _ (.inl ?_); simp only [go_sem])
 ·simp only [go_sem]
 ·intro x e h hx
  have hf:∀ (l:List Int) (i:Nat) (u:Unit),foldC (fun i x (_:Unit)=>if x=v then Ctl.out ((i:Nat):Int) else Ctl.go ()) (fun _=>-1) i l u=idxL v i l:=by
   intro l
   induction l with
   | nil=>intro i u; rfl
   | cons x l ih =>
    intro i u
    rw [idxL]
    by_cases q:x=v
    ·rw [q0N (r:=((i:Nat):Int)) (by rw [if_pos q]),if_pos q]
    ·rw [q07 (s':=()) (by rw [if_neg q]),ih,if_neg q]
  rw [hf] at hx
  rcases hx with ⟨hb,rfl⟩|⟨rfl,e2⟩
  ·rw [hb]
   (repeat' first|simp only [il51c,go_sem]|with_reducible refine wX fun _=>?_|((with_reducible refine wY ?_ ?_); rfl)|fail)
  ·(repeat' first|simp only [il51c,go_sem,e2]|with_reducible refine wX fun _=>?_|((with_reducible refine wY ?_ ?_); rfl)|fail)
theorem q1E (f:Fl) (w:Nw) (n:Nat) (hn:n < w.prios.length):ans Tryz.prog pol 56 [nwT f w,I (n:Nat)]=some (.agg [I (prA w n),I (n:Nat)]):=by
 have hg:(w.prios.map I)[n]? = some (I (prA w n)):=by simp [prA,hn]
 refine q00 1 1 il56_eq (Nat.le_of_ble_eq_true rfl) ?_
 (repeat' first|simp only [il56c,go_sem,hg]|with_reducible refine wX fun _=>?_|((with_reducible refine wY ?_ ?_); rfl)|fail)
end Go.Proofs.YtbibdnlbpjnieaaGreat
namespace Go.Proofs.YtbibdnlbpjnieaaGreat
open Go Go.Abs
def SlR (S:T) (k:Nat) (xs:List T):Prop:=(∃ c,S=.sl c k xs)∨(S=.sc (.slice none 0 0)∧xs=[])
theorem SlR.len {S:T} {k:Nat} {xs:List T} (h:SlR S k xs):iLen (.t S)=some (.t (I (xs.length:Nat))):=by
 rcases h with ⟨c,rfl⟩|⟨rfl,rfl⟩
 ·exact q5E
 ·exact q5F
theorem SlR.ix {S:T} {k:Nat} {xs:List T} (h:SlR S k xs) (size j:Nat):iIdxS size (.t S) j=ixB size k (xs[j]?):=by
 rcases h with ⟨c,rfl⟩|⟨rfl,rfl⟩
 ·exact ix_sl
 ·rfl
theorem SlR.sto {S:T} {k:Nat} {xs:List T} (h:SlR S k xs):storable (.t S)=true:=by
 rcases h with ⟨c,rfl⟩|⟨rfl,rfl⟩
 ·exact q5L
 ·exact q5K
theorem q0Y {c:Bool} {k:Nat} {xs:List T}:SlR (.sl c k xs) k xs:=.inl ⟨c,rfl⟩
theorem q2z {k:Nat}:SlR (.sc (.slice none 0 0)) k []:=.inr ⟨rfl,rfl⟩
theorem qfY (p n p' n':Int) (S1 S2 S3 S1' S2' S3':T) (a b:List Int) (hl:a.length≤1000) (hab:a.length=b.length) (ra:SlR S1 1 (a.map I)) (rb:SlR S1' 1 (b.map I)) (J:Inl) (nn:Nat) (hn:1000 < nn) (R:Xit→FEnv→Heap→Prop) (e:FEnv)
  (he:e 2=.t (.ip [I p,I n,S1,S2,S3])∧e 3=.t (.ip [I p',I n',S1',S2',S3'])∧e 5=.t (I 0))
  (hR1:a=b→∀ e,(e 2=.t (.ip [I p,I n,S1,S2,S3])∧e 3=.t (.ip [I p',I n',S1',S2',S3']))→R (.exit 0) e [])
  (hR2:a≠b→∀ e hh,e 4=.t (B false)→R .ret e hh) :
  wpIter 0 (some [2,3,5]) (wc Tryz.prog pol (ans Tryz.prog pol) J nn 47 il47l0) R nn e []:=by
 have L1:=ra.len
 have L2:=rb.len
 rw [List.length_map] at L1 L2
 refine q06 a I (step:=fun i x (_:Unit)=>if b[i]? = some x then Ctl.go () else Ctl.out false) (fin:=fun _=>true)
  (St:=fun i _ e h=>h=[]∧e 2=.t (.ip [I p,I n,S1,S2,S3])∧e 3=.t (.ip [I p',I n',S1',S2',S3'])∧e 5=.t (I (i:Nat)))
  (Ex:=fun r x e h=>r=true∧x=.exit 0∧(e 2=.t (.ip [I p,I n,S1,S2,S3])∧e 3=.t (.ip [I p',I n',S1',S2',S3']))∧h=[]∨r=false∧x=.ret∧e 4=.t (B false)) (s:=()) (by omega) ?_ ?_ (by omega) ⟨rfl,he⟩ ?_
 ·intro i x _ e h Y R' hm hi hx hget hlt hw ⟨h0,hs⟩ hk
  subst h0
  obtain ⟨y,hy⟩:∃ y,b[i]? = some y:=⟨b[i],by simp⟩
  have I1:=ra.ix 1 i
  have I2:=rb.ix 1 i
  have hgb:(b.map I)[i]? = some (I y):=by simp [hy]
  rw [hget] at I1
  rw [hgb] at I2
  by_cases hxy:x=y
  ·have hd:decide (x=y)=true:=decide_eq_true hxy
   simp only [hy,hxy,if_true,q01] at hk
   (repeat' first|simp only [il47l0_go,il47l0b,go_sem,hs,L1,I1,I2,hlt,hw,hd]|with_reducible refine wX fun _=>?_|((with_reducible refine wY ?_ ?_); rfl)|fail)
   all_goals (refine hk _ _ ?_; simp only [go_sem,hs,hw])
  ·have hd:decide (x=y)=false:=decide_eq_false hxy
   rw [if_neg (by rw [hy]; intro h; exact hxy (Option.some.inj h).symm),q04] at hk
   (repeat' first|simp only [il47l0_go,il47l0b,go_sem,hs,L1,I1,I2,hlt,hw,hd]|with_reducible refine wX fun _=>?_|((with_reducible refine wY ?_ ?_); rfl)|fail)
   all_goals (refine hk _ _ _ (.inr ⟨rfl,rfl,?_⟩); simp only [go_sem])
 ·intro s e h Y R' hlt ⟨h0,hs⟩ hk
  subst h0
  (repeat' first|simp only [il47l0_go,il47l0b,go_sem,hs,L1,hlt]|with_reducible refine wX fun _=>?_|((with_reducible refine wY ?_ ?_); rfl)|fail)
  all_goals (refine hk _ _ _ (.inl ⟨rfl,rfl,?_,rfl⟩); simp only [go_sem,hs])
 ·intro x e h hx
  rw [q2p b a 0 b (by simp) hab] at hx
  rcases hx with ⟨hx,rfl,h2,rfl⟩|⟨hx,rfl,h2⟩
  ·exact hR1 (of_decide_eq_true hx) _ h2
  ·exact hR2 (of_decide_eq_false hx) _ _ h2
theorem qfZ (p n p' n':Int) (S1 S2 S3 S1' S2' S3':T) (a b:List Int) (hl:a.length≤1000) (hab:a.length=b.length) (ra:SlR S2 1 (a.map I)) (rb:SlR S2' 1 (b.map I)) (J:Inl) (nn:Nat) (hn:1000 < nn) (R:Xit→FEnv→Heap→Prop) (e:FEnv)
  (he:e 2=.t (.ip [I p,I n,S1,S2,S3])∧e 3=.t (.ip [I p',I n',S1',S2',S3'])∧e 6=.t (I 0))
  (hR1:a=b→∀ e,(e 2=.t (.ip [I p,I n,S1,S2,S3])∧e 3=.t (.ip [I p',I n',S1',S2',S3']))→R (.exit 2) e [])
  (hR2:a≠b→∀ e hh,e 4=.t (B false)→R .ret e hh) :
  wpIter 0 (some [2,3,6]) (wc Tryz.prog pol (ans Tryz.prog pol) J nn 47 il47l1) R nn e []:=by
 have L1:=ra.len
 have L2:=rb.len
 rw [List.length_map] at L1 L2
 refine q06 a I (step:=fun i x (_:Unit)=>if b[i]? = some x then Ctl.go () else Ctl.out false) (fin:=fun _=>true)
  (St:=fun i _ e h=>h=[]∧e 2=.t (.ip [I p,I n,S1,S2,S3])∧e 3=.t (.ip [I p',I n',S1',S2',S3'])∧e 6=.t (I (i:Nat)))
  (Ex:=fun r x e h=>r=true∧x=.exit 2∧(e 2=.t (.ip [I p,I n,S1,S2,S3])∧e 3=.t (.ip [I p',I n',S1',S2',S3']))∧h=[]∨r=false∧x=.ret∧e 4=.t (B false)) (s:=()) (by omega) ?_ ?_ (by omega) ⟨rfl,he⟩ ?_
 ·intro i x _ e h Y R' hm hi hx hget hlt hw ⟨h0,hs⟩ hk
  subst h0
  obtain ⟨y,hy⟩:∃ y,b[i]? = some y:=⟨b[i],by simp⟩
  have I1:=ra.ix 1 i
  have I2:=rb.ix 1 i
  have hgb:(b.map I)[i]? = some (I y):=by simp [hy]
  rw [hget] at I1
  rw [hgb] at I2
  by_cases hxy:x=y
  ·have hd:decide (x=y)=true:=decide_eq_true hxy
   simp only [hy,hxy,if_true,q01] at hk
   (repeat' first|simp only [il47l1_go,il47l1b,go_sem,hs,L1,I1,I2,hlt,hw,hd]|with_reducible refine wX fun _=>?_|((with_reducible refine wY ?_ ?_); rfl)|fail)
   all_goals (refine hk _ _ ?_; simp only [go_sem,hs,hw])
  ·have hd:decide (x=y)=false:=decide_eq_false hxy
   rw [if_neg (by rw [hy]; intro h; exact hxy (Option.some.inj h).symm),q04] at hk
   (repeat' first|simp only [il47l1_go,il47l1b,go_sem,hs,L1,I1,I2,hlt,hw,hd]|with_reducible refine wX fun _=>?_|((with_reducible refine wY ?_ ?_); rfl)|fail)
   all_goals (refine hk _ _ _ (.inr ⟨rfl,rfl,?_⟩); simp only [go_sem])
 ·intro s e h Y R' hlt ⟨h0,hs⟩ hk
  subst h0
  (repeat' first|simp only [il47l1_go,il47l1b,go_sem,hs,L1,hlt]|with_reducible refine wX fun _=>?_|((with_reducible refine wY ?_ ?_); rfl)|fail)
  all_goals (refine hk _ _ _ (.inl ⟨rfl,rfl,?_,rfl⟩); simp only [go_sem,hs])
 ·intro x e h hx
  rw [q2p b a 0 b (by simp) hab] at hx
  rcases hx with ⟨hx,rfl,h2,rfl⟩|⟨hx,rfl,h2⟩
  ·exact hR1 (of_decide_eq_true hx) _ h2
  ·exact hR2 (of_decide_eq_false hx) _ _ h2
theorem qg0 (p n p' n':Int) (S1 S2 S3 S1' S2' S3':T) (a b:List Hd) (hl:a.length≤1000) (hab:a.length=b.length) (ra:SlR S3 8 (a.map encH)) (rb:SlR S3' 8 (b.map encH)) (J:Inl) (nn:Nat) (hn:1000 < nn) (R:Xit→FEnv→Heap→Prop) (e:FEnv)
  (he:e 2=.t (.ip [I p,I n,S1,S2,S3])∧e 3=.t (.ip [I p',I n',S1',S2',S3'])∧e 7=.t (I 0))
  (hR1:a=b→∀ e,(e 2=.t (.ip [I p,I n,S1,S2,S3])∧e 3=.t (.ip [I p',I n',S1',S2',S3']))→R (.exit 4) e [])
  (hR2:a≠b→∀ e hh,e 4=.t (B false)→R .ret e hh) :
  wpIter 0 (some [2,3,7]) (wc Tryz.prog pol (ans Tryz.prog pol) J nn 47 il47l2) R nn e []:=by
 have L1:=ra.len
 have L2:=rb.len
 rw [List.length_map] at L1 L2
 refine q06 a encH (step:=fun i x (_:Unit)=>if b[i]? = some x then Ctl.go () else Ctl.out false) (fin:=fun _=>true)
  (St:=fun i _ e h=>h=[]∧e 2=.t (.ip [I p,I n,S1,S2,S3])∧e 3=.t (.ip [I p',I n',S1',S2',S3'])∧e 7=.t (I (i:Nat)))
  (Ex:=fun r x e h=>r=true∧x=.exit 4∧(e 2=.t (.ip [I p,I n,S1,S2,S3])∧e 3=.t (.ip [I p',I n',S1',S2',S3']))∧h=[]∨r=false∧x=.ret∧e 4=.t (B false)) (s:=()) (by omega) ?_ ?_ (by omega) ⟨rfl,he⟩ ?_
 ·intro i x _ e h Y R' hm hi hx hget hlt hw ⟨h0,hs⟩ hk
  subst h0
  obtain ⟨y,hy⟩:∃ y,b[i]? = some y:=⟨b[i],by simp⟩
  have I1:=ra.ix 8 i
  have I2:=rb.ix 8 i
  have hgb:(b.map encH)[i]? = some (encH y):=by simp [hy]
  rw [hget] at I1
  rw [hgb] at I2
  by_cases hxy:x=y
  ·have hd:decide (x.is=y.is∧x.a=y.a∧x.b=y.b∧x.c=y.c∧x.d=y.d∧x.e=y.e∧x.f=y.f∧x.g=y.g)=true:=by subst hxy; simp
   simp only [hy,hxy,if_true,q01] at hk
   (repeat' first|simp only [il47l2_go,il47l2b,go_sem,hs,L1,I1,I2,hlt,hw,hd,q05]|with_reducible refine wX fun _=>?_|((with_reducible refine wY ?_ ?_); rfl)|fail)
   all_goals (refine hk _ _ ?_; simp only [go_sem,hs,hw])
  ·have hd:decide (x.is=y.is∧x.a=y.a∧x.b=y.b∧x.c=y.c∧x.d=y.d∧x.e=y.e∧x.f=y.f∧x.g=y.g)=false:=decide_eq_false (fun ⟨q1,q2,q3,q4,q5,q6,q7,q8⟩=>hxy (by cases x; cases y; simp_all))
   rw [if_neg (by rw [hy]; intro h; exact hxy (Option.some.inj h).symm),q04] at hk
   (repeat' first|simp only [il47l2_go,il47l2b,go_sem,hs,L1,I1,I2,hlt,hw,hd,q05]|with_reducible refine wX fun _=>?_|((with_reducible refine wY ?_ ?_); rfl)|fail)
   all_goals (refine hk _ _ _ (.inr ⟨rfl,rfl,?_⟩); simp only [go_sem])
 ·intro s e h Y R' hlt ⟨h0,hs⟩ hk
  subst h0
  (repeat' first|simp only [il47l2_go,il47l2b,go_sem,hs,L1,hlt]|with_reducible refine wX fun _=>?_|((with_reducible refine wY ?_ ?_); rfl)|fail)
  all_goals (refine hk _ _ _ (.inl ⟨rfl,rfl,?_,rfl⟩); simp only [go_sem,hs])
 ·intro x e h hx
  rw [q2p b a 0 b (by simp) hab] at hx
  rcases hx with ⟨hx,rfl,h2,rfl⟩|⟨hx,rfl,h2⟩
  ·exact hR1 (of_decide_eq_true hx) _ h2
  ·exact hR2 (of_decide_eq_false hx) _ _ h2
theorem q6w {p n p' n':Int} {S1 S2 S3 S1' S2' S3':T} {a1 a2 b1 b2:List Int} {a3 b3:List Hd} (r1:SlR S1 1 (a1.map I)) (r2:SlR S2 1 (a2.map I)) (r3:SlR S3 8 (a3.map encH)) (q1:SlR S1' 1 (b1.map I)) (q2:SlR S2' 1 (b2.map I)) (q3:SlR S3' 8 (b3.map encH))
  (l1:a1.length≤1000) (l2:a2.length≤1000) (l3:a3.length≤1000) :
  ans Tryz.prog pol 47 [.agg [I p,I n,S1,S2,S3],.agg [I p',I n',S1',S2',S3']]=some (B (decide ((p=p'∧n=n')∧a1=b1∧a2=b2∧a3=b3))):=by
 have t1:=r1.sto
 have t2:=r2.sto
 have t3:=r3.sto
 have u1:=q1.sto
 have u2:=q2.sto
 have u3:=q3.sto
 have L1:=r1.len
 have L2:=r2.len
 have L3:=r3.len
 have M1:=q1.len
 have M2:=q2.len
 have M3:=q3.len
 rw [List.length_map] at L1 L2 L3 M1 M2 M3
 obtain ⟨nn,hn⟩:∃ nn,1000 < nn:=⟨1001,by omega⟩
 by_cases h0:p=p'∧n=n'
 rotate_left
 ·have d0:=decide_eq_false h0
  rw [decide_eq_false (fun h=>h0 h.1)]
  refine q00 nn 1 il47_eq (Nat.le_of_ble_eq_true rfl) ?_
  (repeat' first|simp only [il47c,go_sem,t1,t2,t3,u1,u2,u3,d0]|with_reducible refine wX fun _=>?_|((with_reducible refine wY ?_ ?_); rfl)|fail)
 have d0:=decide_eq_true h0
 by_cases h1:a1.length=b1.length
 rotate_left
 ·have d1:decide ((a1.length:Int)=(b1.length:Nat))=false:=decide_eq_false (by omega)
  rw [decide_eq_false (fun h=>h1 (by rw [h.2.1]))]
  refine q00 nn 1 il47_eq (Nat.le_of_ble_eq_true rfl) ?_
  (repeat' first|simp only [il47c,go_sem,t1,t2,t3,u1,u2,u3,d0,L1,M1,d1]|with_reducible refine wX fun _=>?_|((with_reducible refine wY ?_ ?_); rfl)|fail)
 have d1:decide ((a1.length:Int)=(b1.length:Nat))=true:=decide_eq_true (by omega)
 by_cases h2:a2.length=b2.length
 rotate_left
 ·have d2:decide ((a2.length:Int)=(b2.length:Nat))=false:=decide_eq_false (by omega)
  rw [decide_eq_false (fun h=>h2 (by rw [h.2.2.1]))]
  refine q00 nn 1 il47_eq (Nat.le_of_ble_eq_true rfl) ?_
  (repeat' first|simp only [il47c,go_sem,t1,t2,t3,u1,u2,u3,d0,L1,M1,d1,L2,M2,d2]|with_reducible refine wX fun _=>?_|((with_reducible refine wY ?_ ?_); rfl)|fail)
 have d2:decide ((a2.length:Int)=(b2.length:Nat))=true:=decide_eq_true (by omega)
 by_cases h3:a3.length=b3.length
 rotate_left
 ·have d3:decide ((a3.length:Int)=(b3.length:Nat))=false:=decide_eq_false (by omega)
  rw [decide_eq_false (fun h=>h3 (by rw [h.2.2.2]))]
  refine q00 nn 1 il47_eq (Nat.le_of_ble_eq_true rfl) ?_
  (repeat' first|simp only [il47c,go_sem,t1,t2,t3,u1,u2,u3,d0,L1,M1,d1,L2,M2,d2,L3,M3,d3]|with_reducible refine wX fun _=>?_|((with_reducible refine wY ?_ ?_); rfl)|fail)
 have d3:decide ((a3.length:Int)=(b3.length:Nat))=true:=decide_eq_true (by omega)
 refine q00 nn 1 il47_eq (Nat.le_of_ble_eq_true rfl) ?_
 (repeat' first|simp only [il47c,go_sem,t1,t2,t3,u1,u2,u3,d0,L1,M1,d1,L2,M2,d2,L3,M3,d3]|with_reducible refine wX fun _=>?_|((with_reducible refine wY ?_ ?_); rfl)|fail)
 refine qfY p n p' n' S1 S2 S3 S1' S2' S3' a1 b1 l1 h1 r1 q1 _ nn hn _ _ (by simp only [go_sem]) ?_ ?_
 ·intro E1 e he
  (repeat' first|simp only [il47c,go_sem,he]|with_reducible refine wX fun _=>?_|((with_reducible refine wY ?_ ?_); rfl)|fail)
  refine qfZ p n p' n' S1 S2 S3 S1' S2' S3' a2 b2 l2 h2 r2 q2 _ nn hn _ _ (by simp only [go_sem,he]) ?_ ?_
  ·intro E2 e he
   (repeat' first|simp only [il47c,go_sem,he]|with_reducible refine wX fun _=>?_|((with_reducible refine wY ?_ ?_); rfl)|fail)
   refine qg0 p n p' n' S1 S2 S3 S1' S2' S3' a3 b3 l3 h3 r3 q3 _ nn hn _ _ (by simp only [go_sem,he]) ?_ ?_
   ·intro E3 e he
    rw [decide_eq_true ⟨h0,E1,E2,E3⟩]
    (repeat' first|simp only [il47c,go_sem,he]|with_reducible refine wX fun _=>?_|((with_reducible refine wY ?_ ?_); rfl)|fail)
   ·intro E3 e hh he
    rw [decide_eq_false (fun h=>E3 h.2.2.2)]
    (repeat' first|simp only [il47c,go_sem,he]|with_reducible refine wX fun _=>?_|((with_reducible refine wY ?_ ?_); rfl)|fail)
  ·intro E2 e hh he
   rw [decide_eq_false (fun h=>E2 h.2.2.1)]
   (repeat' first|simp only [il47c,go_sem,he]|with_reducible refine wX fun _=>?_|((with_reducible refine wY ?_ ?_); rfl)|fail)
 ·intro E1 e hh he
  rw [decide_eq_false (fun h=>E1 h.2.1)]
  (repeat' first|simp only [il47c,go_sem,he]|with_reducible refine wX fun _=>?_|((with_reducible refine wY ?_ ?_); rfl)|fail)
end Go.Proofs.YtbibdnlbpjnieaaGreat
