/- Part 19 of the proof of TreeShapes. -/
import Derived.Test.YtbibdnlbpjnieaaS18
set_option linter.all false
set_option maxRecDepth 100000
set_option maxHeartbeats 4000000
namespace Go.Proofs.Ytbibdnlbpjnieaa
open Go Go.Abs
def clm (b:Br) (t:Tp) (i:Nat):Hd:=⟨true,t.rp,t.rn,t.cost,b.p,b.n,prt b i,t.age⟩
def roleF (b:Br) (t:Tp) (i:Nat):Int:=if (i:Int)=t.via then 1 else if (hrd b i).is=false∨lt6 (clm b t i) (hrd b i) < 0 then 2 else 3
def sentF (b:Br) (t:Tp) (i:Nat):Hd:=if roleF b t i=2 then clm b t i else zH
section
variable (c1 c2 c3:Bool) (b:Br) (t:Tp)
theorem claim_ans (i:Nat) (hi:i < b.ports.length):ans Try.prog pol 76 [sbT c1 c2 c3 b t,I (i:Nat)]=some (rkT (clm b t i)):=by
 have hg:(b.ports.map I)[i]? = some (I (prt b i)):=by simp [prt,hi]
 refine ans_go 1 1 il76_eq (Nat.le_of_ble_eq_true rfl) ?_
 simp only [clm]
 generalize prt b i=P at *
 (repeat' first|simp only [il76c,go_sem,hg]|(with_reducible first|apply wD|apply wT|(apply wM; intro)|(apply wL; intro))|((with_reducible first|refine wA ?_ ?_|refine wE ?_); rfl))
theorem role_ans (i:Nat) (hi:i < b.ports.length) (hh:b.heard.length=b.ports.length):ans Try.prog pol 54 [sbT c1 c2 c3 b t,I (i:Nat)]=some (I (roleF b t i)):=by
 have hg:(b.heard.map encH)[i]? = some (encH (hrd b i)):=by simp [hrd,show i < b.heard.length by omega]
 have k1:=claim_ans c1 c2 c3 b t i hi
 have k2:=compH_ans (clm b t i) (hrd b i)
 refine ans_go 1 1 il54_eq (Nat.le_of_ble_eq_true rfl) ?_
 by_cases q0:(i:Int)=t.via
 ·have d0:decide ((i:Int)=t.via)=true:=decide_eq_true q0
  rw [roleF,if_pos q0]
  (repeat' first|simp only [il54c,go_sem,hg,encH_cells,d0]|(with_reducible first|apply wD|apply wT|(apply wM; intro)|(apply wL; intro))|((with_reducible first|refine wA ?_ ?_|refine wE ?_); rfl))
 have d0:decide ((i:Int)=t.via)=false:=decide_eq_false q0
 rw [roleF,if_neg q0]
 by_cases q1:(hrd b i).is=false
 ·rw [if_pos (.inl q1)]
  (repeat' first|simp only [il54c,go_sem,hg,encH_cells,d0,q1]|(with_reducible first|apply wD|apply wT|(apply wM; intro)|(apply wL; intro))|((with_reducible first|refine wA ?_ ?_|refine wE ?_); rfl))
 have q1':(hrd b i).is=true:=by simpa using q1
 by_cases q2:lt6 (clm b t i) (hrd b i) < 0
 ·have d2:decide (lt6 (clm b t i) (hrd b i) < 0)=true:=decide_eq_true q2
  rw [if_pos (.inr q2)]
  (repeat' first|simp only [il54c,go_sem,hg,encH_cells,d0,q1',k1,k2,d2]|(with_reducible first|apply wD|apply wT|(apply wM; intro)|(apply wL; intro))|((with_reducible first|refine wA ?_ ?_|refine wE ?_); rfl))
 ·have d2:decide (lt6 (clm b t i) (hrd b i) < 0)=false:=decide_eq_false q2
  rw [if_neg (by rintro (h|h); exact q1 h; exact q2 h)]
  (repeat' first|simp only [il54c,go_sem,hg,encH_cells,d0,q1',k1,k2,d2]|(with_reducible first|apply wD|apply wT|(apply wM; intro)|(apply wL; intro))|((with_reducible first|refine wA ?_ ?_|refine wE ?_); rfl))
theorem sent_ans (i:Nat) (hi:i < b.ports.length) (hh:b.heard.length=b.ports.length):ans Try.prog pol 89 [sbT c1 c2 c3 b t,I (i:Nat)]=some (hdT (sentF b t i)):=by
 have k1:=claim_ans c1 c2 c3 b t i hi
 have k2:=role_ans c1 c2 c3 b t i hi hh
 refine ans_go 1 1 il89_eq (Nat.le_of_ble_eq_true rfl) ?_
 by_cases q:roleF b t i=2
 ·have d1:decide (roleF b t i=2)=true:=decide_eq_true q
  rw [sentF,if_pos q]
  simp only [clm] at k1 ⊢
  (repeat' first|simp only [il89c,go_sem,k1,k2,d1]|(with_reducible first|apply wD|apply wT|(apply wM; intro)|(apply wL; intro))|((with_reducible first|refine wA ?_ ?_|refine wE ?_); rfl))
 ·have d1:decide (roleF b t i=2)=false:=decide_eq_false q
  rw [sentF,if_neg q]
  simp only [zH]
  (repeat' first|simp only [il89c,go_sem,k1,k2,d1]|(with_reducible first|apply wD|apply wT|(apply wM; intro)|(apply wL; intro))|((with_reducible first|refine wA ?_ ?_|refine wE ?_); rfl))
theorem eachI_ans (hl:b.ports.length≤1000) (hh:b.heard.length=b.ports.length):ans Try.prog pol 53 [sbT c1 c2 c3 b t,.fn (.func 54) [sbT c1 c2 c3 b t] []]=some (.sl true 1 (((List.range b.ports.length).map (roleF b t)).map I)):=by
 have hroom:8*b.ports.length≤roomB:=by rw [Nat.mul_comm]; exact ap_room (by omega) (by omega)
 have hbig:b.ports.length≤9223372036854775807:=by omega
 refine ans_go 2000 1 il53_eq (Nat.le_of_ble_eq_true rfl) ?_
 (repeat' first|simp only [il53c,go_sem,hroom,hbig]|(with_reducible first|apply wD|apply wT|(apply wM; intro)|(apply wL; intro))|((with_reducible first|refine wA ?_ ?_|refine wE ?_); rfl))
 refine loop_upto b.ports.length (step:=fun i (_:Unit)=>Ctl.go ()) (fin:=id)
  (St:=fun i _ e h=>(e 1=.t (.fn (.func 54) [sbT c1 c2 c3 b t] [])∧e 5=.ms 0 b.ports.length 0 b.ports.length 1 true∧e 13=.t (I (b.ports.length:Nat))∧e 14=.t (I (i:Nat)))∧∃ mr,mr≤b.ports.length∧h=[.row 1 (((fillL (roleF b t) (0:Int) b.ports.length i).map I).map .t) mr])
  (Ex:=fun _ x e h=>e 5=.ms 0 b.ports.length 0 b.ports.length 1 true∧x=.exit 0∧∃ mr,mr≤b.ports.length∧h=[.row 1 ((((List.range b.ports.length).map (roleF b t)).map I).map .t) mr]) (s:=()) (by omega) ?_ ?_ (by omega) ?_ ?_
 ·intro i _ e h Y R hi hlt hw ⟨hs,mr,hmr,hh'⟩ hk
  subst hh'
  simp only [ctlK_go] at hk
  have k1:=role_ans c1 c2 c3 b t i hi hh
  have hset:=fillL_set (f:=roleF b t) (z:=(0:Int)) hi rfl
  have hlen:=fillL_len (roleF b t) (0:Int) (Nat.le_of_lt hi)
  generalize hL:fillL (roleF b t) (0:Int) b.ports.length i=L at *
  obtain ⟨old,hold⟩:∃ w,L[i]? = some w:=⟨L[i]'(by omega),by simp⟩
  have hget:(List.map AV.t (List.map I L))[i]? = some (.t (I old)):=map_get (enc:=I) hold
  have hst':=map_set (enc:=I) (l:=L) (i:=i) (x:=roleF b t i)
  rw [hset] at hst'
  generalize hB:roleF b t i=v at *
  (repeat' first|simp only [il53l0_go,il53l0b,go_sem,hs,hlt,k1,hget,hlen,hmr,hi,hw,hst',frz_rowH]|(with_reducible first|apply wD|apply wT|(apply wM; intro)|(apply wL; intro))|((with_reducible first|refine wA ?_ ?_|refine wE ?_); rfl))
  all_goals (refine hk _ _ ⟨?_,b.ports.length,Nat.le_refl _,?_⟩ <;> simp only [go_sem,hs,hw])
 ·intro _ e h Y R hlt ⟨hs,mr,hmr,hh'⟩ hk
  subst hh'
  (repeat' first|simp only [il53l0_go,il53l0b,go_sem,hs,hlt,frz_rowH]|(with_reducible first|apply wD|apply wT|(apply wM; intro)|(apply wL; intro))|((with_reducible first|refine wA ?_ ?_|refine wE ?_); rfl))
  all_goals (refine hk _ _ _ ⟨?_,rfl,mr,hmr,?_⟩ <;> (try simp only [go_sem,hs]))
  all_goals simp only [fillL_all,id]
 ·refine ⟨?_,0,by omega,?_⟩
  ·simp only [go_sem]
  ·rw [fillL_zero]; simp
 ·intro x e h ⟨h1,h2,mr,hmr,h3⟩
  subst h2 h3
  have hll:((List.range b.ports.length).map (roleF b t)).length=b.ports.length:=by simp
  generalize (List.range b.ports.length).map (roleF b t)=L at *
  (repeat' first|simp only [il53c,go_sem,h1,hll,hmr]|(with_reducible first|apply wD|apply wT|(apply wM; intro)|(apply wL; intro))|((with_reducible first|refine wA ?_ ?_|refine wE ?_); rfl))
theorem eachH_ans (hl:b.ports.length≤1000) (hh:b.heard.length=b.ports.length):ans Try.prog pol 88 [sbT c1 c2 c3 b t,.fn (.func 89) [sbT c1 c2 c3 b t] []]=some (.sl true 8 (((List.range b.ports.length).map (sentF b t)).map encH)):=by
 have hroom:64*b.ports.length≤roomB:=by rw [Nat.mul_comm]; exact ap_room (by omega) (by omega)
 have hbig:b.ports.length≤9223372036854775807:=by omega
 refine ans_go 2000 1 il88_eq (Nat.le_of_ble_eq_true rfl) ?_
 (repeat' first|simp only [il88c,go_sem,hroom,hbig]|(with_reducible first|apply wD|apply wT|(apply wM; intro)|(apply wL; intro))|((with_reducible first|refine wA ?_ ?_|refine wE ?_); rfl))
 refine loop_upto b.ports.length (step:=fun i (_:Unit)=>Ctl.go ()) (fin:=id)
  (St:=fun i _ e h=>(e 1=.t (.fn (.func 89) [sbT c1 c2 c3 b t] [])∧e 5=.ms 0 b.ports.length 0 b.ports.length 8 true∧e 13=.t (I (b.ports.length:Nat))∧e 14=.t (I (i:Nat)))∧∃ mr,mr≤b.ports.length∧h=[.row 8 (((fillL (sentF b t) zH b.ports.length i).map encH).map .t) mr])
  (Ex:=fun _ x e h=>e 5=.ms 0 b.ports.length 0 b.ports.length 8 true∧x=.exit 0∧∃ mr,mr≤b.ports.length∧h=[.row 8 ((((List.range b.ports.length).map (sentF b t)).map encH).map .t) mr]) (s:=()) (by omega) ?_ ?_ (by omega) ?_ ?_
 ·intro i _ e h Y R hi hlt hw ⟨hs,mr,hmr,hh'⟩ hk
  subst hh'
  simp only [ctlK_go] at hk
  have k1:=sent_ans c1 c2 c3 b t i hi hh
  have hset:=fillL_set (f:=sentF b t) (z:=zH) hi rfl
  have hlen:=fillL_len (sentF b t) zH (Nat.le_of_lt hi)
  generalize hL:fillL (sentF b t) zH b.ports.length i=L at *
  obtain ⟨old,hold⟩:∃ w,L[i]? = some w:=⟨L[i]'(by omega),by simp⟩
  have hget:(List.map AV.t (List.map encH L))[i]? = some (.t (hdT old)):=map_get (enc:=encH) hold
  have hst':=map_set (enc:=encH) (l:=L) (i:=i) (x:=sentF b t i)
  rw [hset] at hst'
  simp only [encH] at hst'
  generalize hB:sentF b t i=v at *
  (repeat' first|simp only [il88l0_go,il88l0b,go_sem,hs,hlt,k1,hget,hlen,hmr,hi,hw,hst',frz_rowH]|(with_reducible first|apply wD|apply wT|(apply wM; intro)|(apply wL; intro))|((with_reducible first|refine wA ?_ ?_|refine wE ?_); rfl))
  all_goals (refine hk _ _ ⟨?_,b.ports.length,Nat.le_refl _,?_⟩ <;> simp only [go_sem,hs,hw])
 ·intro _ e h Y R hlt ⟨hs,mr,hmr,hh'⟩ hk
  subst hh'
  (repeat' first|simp only [il88l0_go,il88l0b,go_sem,hs,hlt,frz_rowH]|(with_reducible first|apply wD|apply wT|(apply wM; intro)|(apply wL; intro))|((with_reducible first|refine wA ?_ ?_|refine wE ?_); rfl))
  all_goals (refine hk _ _ _ ⟨?_,rfl,mr,hmr,?_⟩ <;> (try simp only [go_sem,hs]))
  all_goals simp only [fillL_all,id]
 ·refine ⟨?_,0,by omega,?_⟩
  ·simp only [go_sem]
  ·rw [fillL_zero]; simp [encH,zH]
 ·intro x e h ⟨h1,h2,mr,hmr,h3⟩
  subst h2 h3
  have hll:((List.range b.ports.length).map (sentF b t)).length=b.ports.length:=by simp
  generalize (List.range b.ports.length).map (sentF b t)=L at *
  (repeat' first|simp only [il88c,go_sem,h1,hll,hmr]|(with_reducible first|apply wD|apply wT|(apply wM; intro)|(apply wL; intro))|((with_reducible first|refine wA ?_ ?_|refine wE ?_); rfl))
theorem Roles_ok (hb:okB b=true):ans Try.prog pol 27 [brT c1 c2 c3 b]=some (.tup [.sl true 1 (((List.range b.ports.length).map (roleF b (opF b).t)).map I),I 0]):=by
 have k1:=open_ok c1 c2 c3 b hb
 have hl:=okB_len hb
 simp only [okL] at hl
 generalize (opF b).t=t at *
 have k2:=eachI_ans c1 c2 c3 b t (by omega) (by omega)
 generalize (List.range b.ports.length).map (roleF b t)=L at *
 refine ans_go 1 1 il27_eq (Nat.le_of_ble_eq_true rfl) ?_
 (repeat' first|simp only [il27c,go_sem,k1,k2]|(with_reducible first|apply wD|apply wT|(apply wM; intro)|(apply wL; intro))|((with_reducible first|refine wA ?_ ?_|refine wE ?_); rfl))
theorem Send_ok (hb:okB b=true):ans Try.prog pol 64 [brT c1 c2 c3 b]=some (.tup [.sl true 8 (((List.range b.ports.length).map (sentF b (opF b).t)).map encH),I 0]):=by
 have k1:=open_ok c1 c2 c3 b hb
 have hl:=okB_len hb
 simp only [okL] at hl
 generalize (opF b).t=t at *
 have k2:=eachH_ans c1 c2 c3 b t (by omega) (by omega)
 generalize (List.range b.ports.length).map (sentF b t)=L at *
 refine ans_go 1 1 il64_eq (Nat.le_of_ble_eq_true rfl) ?_
 (repeat' first|simp only [il64c,go_sem,k1,k2]|(with_reducible first|apply wD|apply wT|(apply wM; intro)|(apply wL; intro))|((with_reducible first|refine wA ?_ ?_|refine wE ?_); rfl))
end
end Go.Proofs.Ytbibdnlbpjnieaa
namespace Go.Proofs.Ytbibdnlbpjnieaa
open Go Go.Abs
abbrev zN6:T:=.agg [I 0,.sc (.slice none 0 0),.sc (.slice none 0 0),.sc (.slice none 0 0),.sc (.slice none 0 0),.sc (.slice none 0 0)]
abbrev stepsT:T:=.agg [.fn (.func 39) [] [],.fn (.func 40) [] [],.fn (.func 41) [] []]
def rdH (w:Nw) (bs:List Bx) (mr:Nat) (sent:AV) (g:FuncId):Heap :=
 [.row 6 [.t zN6] 0,.row 3 [.t stepsT] 1,.row 6 [.agg (nwA 3 5 w)] 1,dnRow w,.row 6 [.agg (nwA 3 5 w)] 1,bsRow bs mr,.row 7 [.agg (nwA 3 5 w++[sent])] 1,.row 1 [.t (.agg [.fn (.func g) [] []])] 1]
def encS:Option (List Hd)→T
 | none=>.sc (.slice none 0 0)
 | some l=>.sl true 8 (l.map encH)
def sends (b:Br):List Hd:=(List.range b.ports.length).map (sentF b (opF b).t)
def sentAt (t:Tpo) (bs:List Bx) (n:Nat):Option (List Hd):=if stA t n=true then none else some (sends (bs[n]?.getD zBx).b)
noncomputable def lpSd (rf:Code × Code) (E:FEnv):AObj:=.loop 39 (lpEnv 40 (tidyF (some [1,2]) E)) [23,24] rf.1 rf.2 false none
noncomputable def hpSd (w:Nw) (bs:List Bx) (mr:Nat) (rf:Code × Code) (E:FEnv) (s:List (Option (List Hd)) × Nat):Heap :=
 rdH w bs mr (.ms 10 w.bs.length 0 w.bs.length 1 true) 39++[.row 1 [.ref 6 1 0 0] 0,.row 1 [.t (I 0)] 0,.row 1 ((s.1.map encS).map .t) s.2,.row 6 [.agg (nwA 3 5 w)] 0,lpSd rf E]
theorem frz_rowA {k mr:Nat} {es:List AV} {h:Heap} {p:Nat→Bool} (ha:avoidAll p es=true):frzObj h p (.row k es mr)=some (.row k es mr):=by simp only [frzObj,ha,if_true]
theorem frz_mapA {α:Type} {enc:α→T} {k mr:Nat} {l:List α} {h:Heap} {p:Nat→Bool}:frzObj h p (.row k ((l.map enc).map .t) mr)=some (.row k ((l.map enc).map .t) mr):=frz_rowA av_map
theorem hpSd_frz (w:Nw) (bs:List Bx) (mr:Nat) (rf:Code × Code) (E:FEnv) (hE:E 1=.ref 8 1 0 0∧E 2=.ref 9 1 0 0) (s:List (Option (List Hd)) × Nat) (h:Heap) (q:Nat) (hq:13≤q):mapO (frzObj h (fromB q)) (hpSd w bs mr rf E s)=some (hpSd w bs mr rf E s):=by
 have f8:decide (q≤8)=false:=decide_eq_false (by omega)
 have f9:decide (q≤9)=false:=decide_eq_false (by omega)
 have f3:decide (q≤3)=false:=decide_eq_false (by omega)
 have f5:decide (q≤5)=false:=decide_eq_false (by omega)
 have f6:decide (q≤6)=false:=decide_eq_false (by omega)
 have f10:decide (q≤10)=false:=decide_eq_false (by omega)
 have h1:frzObj h (fromB q) (lpSd rf E)=some (lpSd rf E):=by
  rw [lpSd,frz_loop]
  simp only [go_sem,hE,f8,f9]
 have a1:avoidAll (fromB q) [.agg (nwA 3 5 w)]=true:=by simp [nwA,avoidAll,avoid,fromB,f3,f5]
 have a2:avoidAll (fromB q) [.agg (nwA 3 5 w++[.ms 10 w.bs.length 0 w.bs.length 1 true])]=true:=by simp [nwA,avoidAll,avoid,fromB,f3,f5,f10]
 have a3:avoidAll (fromB q) [.ref 6 1 0 0]=true:=by simp [avoidAll,avoid,fromB,f6]
 have a4:∀ x:T,avoidAll (fromB q) [.t x]=true:=fun x=>by simp [avoidAll,avoid]
 simp only [hpSd,rdH,List.cons_append,List.nil_append,dnRow,bsRow,mapO,h1,frz_mapA,frz_rowA a1,frz_rowA a2,frz_rowA a3,frz_rowA (a4 _)]
theorem send_yield (rf:Code × Code) (hrf:rfOf Try.prog 39 0=rf) (w:Nw) (bs:List Bx) (mr:Nat) (hbs:bs.length=w.bs.length) (E:FEnv) (hE:E 1=.ref 8 1 0 0∧E 2=.ref 9 1 0 0) (dd nn:Nat) (s:List (Option (List Hd)) × Nat)
  (hs:s.1.length=w.bs.length∧s.2≤w.bs.length) (n:Nat) (x:Bx) (hx:bs[n]? = some x) (hz:x.z=false) (hok:okB x.b=true) (X:Heap) (Q:AV→Heap→Prop)
  (hQ:∀ X',Q (.t (B true)) (hpSd w bs mr rf E (s.1.set n (some (sends x.b)),w.bs.length)++X++X')) :
  oB (inl Try.prog pol (ans Try.prog pol) nn (dd+1) (.yl 12) [.t (I (n:Nat)),.t (.agg (bxC x))] (hpSd w bs mr rf E s++X)) Q:=by
 subst hrf
 obtain ⟨z,c1,c2,c3,b⟩:=x
 dsimp only at hz hok hQ
 subst hz
 have hbc:bxC ⟨false,c1,c2,c3,b⟩=brC c1 c2 c3 b:=rfl
 rw [hbc]
 have k1:=Send_ok c1 c2 c3 b hok
 have hn:n < w.bs.length:=by rw [← hbs]; exact (List.getElem?_eq_some_iff.1 hx).1
 have hi:n < s.1.length:=by omega
 have hg:((s.1.map encS).map AV.t)[n]? = some (.t (encS s.1[n])):=map_get (enc:=encS) (by simp [hi])
 have hset:=map_set (enc:=encS) (l:=s.1) (i:=n) (x:=some (sends b))
 have hes:encS (some (sends b))=.sl true 8 (((List.range b.ports.length).map (sentF b (opF b).t)).map encH):=rfl
 rw [hes] at hset
 have hio:(AV.t (encS s.1[n])).isAgg=false:=by cases s.1[n] <;> rfl
 have hco:(AV.t (encS s.1[n])).cells=[.t (encS s.1[n])]:=by cases s.1[n] <;> rfl
 have hl:((s.1.map encS).map AV.t).length=w.bs.length:=by simp [hs.1]
 have hq:=hQ [.row 5 [.t (.agg (brC c1 c2 c3 b))] 1]
 have hs2:=hs.2
 generalize ((List.range b.ports.length).map (sentF b (opF b).t)).map encH=S at *
 simp only [hpSd,rdH,lpSd,List.cons_append,List.nil_append,nwA] at hq ⊢
 rw [← hset] at hq
 generalize (s.1.map encS).map AV.t=L at *
 generalize encS s.1[n]=old at *
 refine oB_yl (E:=tidyF (some [1,2]) E) rfl rfl rfl il39r0a_eq il39r0b_eq ?_
 (repeat' first|simp only [il39r0a,il39r0b,go_sem,hE,k1,hn,hg,hl,hs2,hio,hco,get_last,set_last]|(with_reducible first|apply wD|apply wT|(apply wM; intro)|(apply wL; intro))|((with_reducible first|refine wA ?_ ?_|refine wE ?_); rfl))
 all_goals exact hq
theorem fillL_at {α:Type} {f:Nat→α} {z:α} {n i:Nat} (h:i < n):(fillL f z n i)[i]? = some z:=by
 rw [fillL,List.getElem?_append_right (by simp)]
 simp only [List.length_map,List.length_range,Nat.sub_self]
 rw [List.getElem?_replicate,if_pos (by omega)]
theorem fillL_same {α:Type} {f:Nat→α} {z:α} {n i:Nat} (h:i < n) (hz:f i=z):fillL f z n (i+1)=fillL f z n i:=by
 rw [← fillL_set h (x:=z) hz.symm]
 apply List.ext_getElem?
 intro j
 rw [List.getElem?_set]
 split
 ·rename_i hj
  subst hj
  have hl:=fillL_len f z (Nat.le_of_lt h)
  rw [fillL_at h,if_pos (by omega)]
 ·rfl
def okBs (w:Nw) (bs:List Bx):Prop:=bs.length=w.bs.length∧∀ n x,bs[n]? = some x→stA w.t n=false→x.z=false∧okB x.b=true
theorem send_ok (w:Nw) (bs:List Bx) (mr:Nat) (hmr:mr≤w.bs.length) (hbs:okBs w bs) (hst:(w.t.station.length:Int)=w.t.nodes) (hbl:(w.bs.length:Int)=w.t.nodes) (hb:w.bs.length≤100) (dd nn:Nat) (hn:200 < nn) (Q:AV→Heap→Prop)
  (hQ:∀ mrs,mrs≤w.bs.length→Q (.t (I 0)) (rdH w bs mr (.ms 10 w.bs.length 0 w.bs.length 1 true) 39++[.row 1 [.ref 6 1 0 0] 0,.row 1 [.t (I 0)] 1,.row 1 ((((List.range w.bs.length).map (sentAt w.t bs)).map encS).map .t) mrs,.row 6 [.agg (nwA 3 5 w)] 0])) :
  oB (inl Try.prog pol (ans Try.prog pol) nn (dd+3) (.fn 39) [.ref 6 1 0 0] (rdH w bs mr (.t (.sc (.slice none 0 0))) 39)) Q:=by
 have hroom:24*w.bs.length≤roomB:=by rw [Nat.mul_comm]; exact ap_room (by omega) (by omega)
 have hbig:w.bs.length≤9223372036854775807:=by omega
 refine oB_inl il39_eq (Nat.le_of_ble_eq_true rfl) ?_
 simp only [il39c]
 generalize hrf:rfOf Try.prog 39 0=rf
 simp only [rdH,nwA]
 (repeat' first|simp only [List.cons_append,List.nil_append,go_sem,hroom,hbig]|(with_reducible first|apply wD|apply wT|(apply wM; intro)|(apply wL; intro))|((with_reducible first|refine wA ?_ ?_|refine wE ?_); rfl)|((with_reducible refine oB_inl il26_eq ?_ ?_); exact Nat.le_of_ble_eq_true rfl; simp only [il26c]))
 have hmap:List.replicate w.bs.length (AV.t (T.sc (Value.slice none 0 0)))=((List.replicate w.bs.length (none:Option (List Hd))).map encS).map .t:=by simp [encS]
 have key:∀ E:FEnv,([.row 6 [.t zN6] 0,.row 3 [.t stepsT] 1,.row 6 [.agg (nwA 3 5 w)] 1,dnRow w,.row 6 [.agg (nwA 3 5 w)] 1,bsRow bs mr,.row 7 [.agg (nwA 3 5 w++[.ms 10 w.bs.length 0 w.bs.length 1 true])] 1,.row 1 [.t (.agg [.fn (.func 39) [] []])] 1,
  .row 1 [.ref 6 1 0 0] 0,.row 1 [.t (I 0)] 0,.row 1 (((List.replicate w.bs.length (none:Option (List Hd))).map encS).map .t) 0,.row 6 [.agg (nwA 3 5 w)] 0,.loop 39 (lpEnv 40 (tidyF (some [1,2]) E)) [23,24] rf.1 rf.2 false none]:Heap)=hpSd w bs mr rf E (List.replicate w.bs.length none,0):=fun E=>rfl
 simp only [nwA,List.cons_append,List.nil_append] at key
 rw [hmap,key]
 obtain ⟨hb1,hb2⟩:=hbs
 have h1213:12 < 13:=by omega
 have h1113:11 < 13:=by omega
 have h513:5 < 13:=by omega
 have h01:0≤1:=by omega
 have hI0:(List.replicate w.bs.length none,0).1=fillL (sentAt w.t bs) none w.bs.length 0∧(List.replicate w.bs.length (none:Option (List Hd)),0).2≤w.bs.length:=⟨(fillL_zero _ _ _).symm,Nat.zero_le _⟩
 with_reducible refine all_iterR (fun s=>hpSd w bs mr rf _ s) 13 (fun s=>rfl) (fun s n=>(s.1.set n (some (sends (bs[n]?.getD zBx).b)),w.bs.length)) (dd+1) nn 12 (fun n s=>s.1=fillL (sentAt w.t bs) none w.bs.length n∧s.2≤w.bs.length) w ?_ ?_ h1213 11 3 5 0 h1113 h01 h513 (fun _=>bs) (fun _=>mr) (fun _=>hb1) (fun _=>hmr) (fun _ _=>rfl) (fun _ _=>rfl) hst hbl hb ?_ (List.replicate w.bs.length none,0) hI0 _ hn ?_
 ·intro n s hnb hI
  have hI:s.1=fillL (sentAt w.t bs) none w.bs.length n∧s.2≤w.bs.length:=hI
  show (stS w.t _ s n).1=fillL (sentAt w.t bs) none w.bs.length (n+1)∧(stS w.t _ s n).2≤w.bs.length
  unfold stS
  by_cases hs:stA w.t n=true
  ·rw [if_pos hs,fillL_same hnb (by rw [sentAt,if_pos hs])]
   exact hI
  ·rw [if_neg hs]
   refine ⟨?_,Nat.le_refl _⟩
   show s.1.set n _=_
   rw [hI.1]
   exact fillL_set hnb (by rw [sentAt,if_neg hs])
 ·intro s h q hq
  exact hpSd_frz w bs mr rf _ (by simp only [go_sem]) s h q hq
 ·intro s n x Q hx hs hI hQ
  have hI:s.1=fillL (sentAt w.t bs) none w.bs.length n∧s.2≤w.bs.length:=hI
  obtain ⟨q1,q2⟩:=hb2 n x hx hs
  have hnl:n < w.bs.length:=by rw [← hb1]; exact (List.getElem?_eq_some_iff.1 hx).1
  refine send_yield rf hrf w bs mr hb1 _ (by simp only [go_sem]) dd nn s ⟨by rw [hI.1]; exact fillL_len _ _ (Nat.le_of_lt hnl),hI.2⟩ n x hx q1 q2 [.row 5 [.t (.agg (bxC x))] 1] Q ?_
  have hQ':∀ X',Q (.t (B true)) (hpSd w bs mr rf _ (s.1.set n (some (sends (bs[n]?.getD zBx).b)),w.bs.length)++[.row 5 [.t (.agg (bxC x))] 1]++X'):=hQ
  rw [hx] at hQ'
  exact hQ'
 ·intro v
  have hfin:∀ (k:Nat),k≤w.bs.length→((List.range k).foldl (stS w.t (fun (s:List (Option (List Hd)) × Nat) n=>(s.1.set n (some (sends (bs[n]?.getD zBx).b)),w.bs.length))) (List.replicate w.bs.length none,0)).1=fillL (sentAt w.t bs) none w.bs.length k∧((List.range k).foldl (stS w.t (fun (s:List (Option (List Hd)) × Nat) n=>(s.1.set n (some (sends (bs[n]?.getD zBx).b)),w.bs.length))) (List.replicate w.bs.length none,0)).2≤w.bs.length:=by
   intro k
   induction k with
   | zero=>intro _; exact hI0
   | succ k ih =>
    intro hk
    have hI:=ih (by omega)
    rw [List.range_succ,List.foldl_append,List.foldl_cons,List.foldl_nil]
    generalize (List.range k).foldl _ _=s at *
    unfold stS
    by_cases hs:stA w.t k=true
    ·rw [if_pos hs,fillL_same (by omega) (by rw [sentAt,if_pos hs])]
     exact hI
    ·rw [if_neg hs]
     refine ⟨?_,Nat.le_refl _⟩
     show s.1.set k _=_
     rw [hI.1]
     exact fillL_set (by omega) (by rw [sentAt,if_neg hs])
  obtain ⟨f1,f2⟩:=hfin w.bs.length (Nat.le_refl _)
  have hq:=hQ _ f2
  generalize (List.range w.bs.length).foldl _ _=s at *
  rw [fillL_all] at f1
  rw [← f1] at hq
  change rfEnd _ _ _ v (hpSd w bs mr rf _ s)
  simp only [hpSd,rdH,lpSd,List.cons_append,List.nil_append,nwA,bsRow,dnRow] at hq ⊢
  (repeat' first|simp only [il39c,go_sem,frz_mapA]|(with_reducible first|apply wD|apply wT|(apply wM; intro)|(apply wL; intro))|((with_reducible first|refine wA ?_ ?_|refine wE ?_); rfl))
  all_goals exact hq
end Go.Proofs.Ytbibdnlbpjnieaa
namespace Go.Proofs.Ytbibdnlbpjnieaa
open Go Go.Abs
theorem okB_put {b:Br} (h:okB b=true) {hd:List Hd} (hl:hd.length=b.heard.length) (hx:∀ x∈hd,okH x):okB (putB b hd)=true:=by
 have h0:=okB_len h
 have h1:=h
 rw [okB,Bool.and_eq_true,Bool.and_eq_true] at h1
 have h3:=of_decide_eq_true h1.1.2
 simp only [okL] at h0
 rw [okB,Bool.and_eq_true,Bool.and_eq_true,List.all_eq_true]
 refine ⟨⟨decide_eq_true ?_,decide_eq_true h3⟩,?_⟩
 ·simp only [okL,putB]; omega
 ·intro i hi
  simp only [putB,List.mem_range] at hi
  have h2:=okB_at h hi
  simp only [okAt,decide_eq_true_eq] at h2 ⊢
  refine ⟨h2.1,h2.2.1,h2.2.2.1,?_⟩
  obtain ⟨x,hx'⟩:∃ x,hd[i]? = some x:=⟨hd[i]'(by omega),by simp⟩
  simp only [hrd,putB,hx',Option.getD_some]
  exact hx x (List.mem_of_getElem? hx')
theorem okH_tick {h:Hd} (hk:okH h):okH (tickH h):=by
 unfold tickH
 by_cases q:h.is=false
 ·rw [if_pos q]; exact hk
 ·have q':h.is=true:=by simpa using q
  rw [if_neg q]
  have h1:=hk.1 q'
  by_cases q2:20 < h.g+1
  ·rw [if_pos q2]; exact ⟨(fun h=>(by cases h)),fun _=>rfl⟩
  ·rw [if_neg q2]
   refine ⟨fun _=>?_,fun h=>?_⟩
   ·simp only [helloP] at h1 ⊢; exact ⟨h1.1,by omega⟩
   ·simp only at h; rw [q'] at h; exact (by cases h)
theorem okH_as {h:Hd} (hk:helloP h):okH (heardAs h):=⟨fun _=>hk,(fun h=>(by cases h))⟩
theorem okH_rcv {o h:Hd} (ho:okH o) (hk:helloP h):okH (rcvH o h):=by
 unfold rcvH
 split
 ·exact okH_as hk
 ·exact ho
end Go.Proofs.Ytbibdnlbpjnieaa
namespace Go.Proofs.Ytbibdnlbpjnieaa
open Go Go.Abs
def bk (p:Nat):Nat:=if p % 2=0 then p+1 else p - 1
theorem bk_lt {p L:Nat} (h:p < 2*L):bk p < 2*L:=by unfold bk; split <;> omega
theorem bk_half (p:Nat):bk p / 2=p / 2:=by unfold bk; split <;> omega
theorem bk_bk (p:Nat):bk (bk p)=p:=by unfold bk; split <;> split <;> omega
theorem bk_fr (t:Tpo) (p:Nat):frP t (bk p)=toP t p:=by
 unfold frP toP
 rw [bk_half]
 have:bk p % 2=0↔¬ p % 2=0:=by unfold bk; split <;> omega
 by_cases h:p % 2=0
 ·rw [if_neg (by rw [this]; simpa using h),if_pos h]
 ·rw [if_pos (this.2 h),if_neg h]
theorem bk_to (t:Tpo) (p:Nat):toP t (bk p)=frP t p:=by rw [← bk_fr,bk_bk]
theorem xor1 (p:Nat) (h:p < 48):i64xor (p:Int) 1=((bk p:Nat):Int):=by
 have:∀ q:Fin 48,i64xor ((q.1:Nat):Int) 1=((bk q.1:Nat):Int):=by decide +kernel
 exact this ⟨p,h⟩
def ixP (t:Tpo) (p:Nat):Nat:=(idxL (ofN p) 0 ((trunkL t (frP t p)).map ofN)).toNat
theorem idxL_spec {α:Type} [DecidableEq α] {v:α}:∀ {l:List α} {i:Nat},v∈l→∃ j,j < l.length∧l[j]? = some v∧idxL v i l=((i+j:Nat):Int):=by
 intro l
 induction l with
 | nil=>intro i h; cases h
 | cons x l ih =>
  intro i h
  rw [idxL]
  by_cases hx:x=v
  ·rw [if_pos hx]; exact ⟨0,by simp,by simp [hx],rfl⟩
  ·rw [if_neg hx]
   have:v∈l:=by
    cases h with
    | head=>exact absurd rfl hx
    | tail _ h=>exact h
   obtain ⟨j,h1,h2,h3⟩:=ih (i:=i+1) this
   exact ⟨j+1,by simp; omega,by simpa using h2,by rw [h3]; congr 1; omega⟩
theorem ixP_spec {t:Tpo} {p:Nat} (h:p∈trunkL t (frP t p)):ixP t p < (trunkL t (frP t p)).length∧(trunkL t (frP t p))[ixP t p]? = some p∧idxL (ofN p) 0 ((trunkL t (frP t p)).map ofN)=((ixP t p:Nat):Int):=by
 obtain ⟨j,h1,h2,h3⟩:=idxL_spec (v:=ofN p) (i:=0) (List.mem_map_of_mem (f:=ofN) h)
 have hj:ixP t p=j:=by rw [ixP,h3]; omega
 rw [hj]
 refine ⟨by simpa using h1,?_,by rw [h3]; congr 1; omega⟩
 rw [List.getElem?_map,Option.map_eq_some_iff] at h2
 obtain ⟨q,hq,hqp⟩:=h2
 have:q=p:=by simp only [ofN] at hqp; omega
 rw [hq,this]
theorem mem_trunk {t:Tpo} {n:Int} {p:Nat}:p∈trunkL t n↔p < 2*t.links.length∧frP t p=n∧stA t (toP t p).toNat=false:=by
 simp [trunkL,portsL,List.mem_filter,innP,and_assoc]
 exact fun _=>And.comm
structure VB (w:Nw) (n:Nat) (b:Br):Prop where
 ok:okB b=true
 ip:b.p=prA w n
 id:b.n=(n:Nat)
 ports:b.ports=(trunkL w.t n).map ofN
 costs:b.costs=costL w.t n
def vBs (w:Nw) (bs:List Bx):Prop:=bs.length=w.bs.length∧∀ n x,bs[n]? = some x→stA w.t n=false→x.z=false∧VB w n x.b
def rcvB (b:Br) (i:Nat) (h:Hd):Bx:=⟨false,true,true,true,putB b (b.heard.set i (rcvH (hrd b i) h))⟩
def rcvP (w:Nw) (bs:List Bx) (p:Nat) (h:Hd):List Bx :=
 if h.is=true∧dnA w (p / 2)=false then bs.set (toP w.t p).toNat (rcvB (bs[(toP w.t p).toNat]?.getD zBx).b (ixP w.t (bk p)) h) else bs
def rcvQ (w:Nw) (s:List Bx × Nat) (p:Nat) (h:Hd):List Bx × Nat:=(rcvP w s.1 p h,if h.is=true∧dnA w (p / 2)=false then w.bs.length else s.2)
theorem okB_all {b:Br} (h:okB b=true):∀ x∈b.heard,okH x:=fun x hx=>okB_heard h hx
theorem hrd_ok {b:Br} (h:okB b=true) (i:Nat):okH (hrd b i):=by
 simp only [hrd]
 cases hq:b.heard[i]? with
 | none=>exact ⟨fun h=>((by cases h)),fun _=>rfl⟩
 | some x=>exact okB_heard h (List.mem_of_getElem? hq)
theorem VB.put {w:Nw} {n:Nat} {b:Br} (h:VB w n b) {hd:List Hd} (hl:hd.length=b.heard.length) (hx:∀ x∈hd,okH x):VB w n (putB b hd):=⟨okB_put h.ok hl hx,h.ip,h.id,h.ports,h.costs⟩
theorem VB.rcv {w:Nw} {n:Nat} {b:Br} (h:VB w n b) (i:Nat) {m:Hd} (hm:helloP m):VB w n (putB b (b.heard.set i (rcvH (hrd b i) m))):=by
 refine h.put (by simp) fun x hx=>?_
 rcases List.mem_or_eq_of_mem_set hx with h1|rfl
 ·exact okB_all h.ok x h1
 ·exact okH_rcv (hrd_ok h.ok i) hm
theorem rcvP_ok {w:Nw} {bs:List Bx} (h:vBs w bs) {p:Nat} {m:Hd} (hm:m.is=true→helloP m) (hp:stA w.t (toP w.t p).toNat=false):vBs w (rcvP w bs p m):=by
 unfold rcvP
 split
 ·rename_i hc
  refine ⟨by simpa using h.1,fun n x hx hs=>?_⟩
  rw [List.getElem?_set] at hx
  split at hx
  ·rename_i hn
   split at hx
   ·rename_i hlt
    obtain rfl:=Option.some.inj hx
    obtain ⟨y,hy⟩:∃ y,bs[(toP w.t p).toNat]? = some y:=⟨bs[(toP w.t p).toNat]'(hlt),by simp [hlt]⟩
    obtain ⟨_,hv⟩:=h.2 _ y hy hp
    rw [hy,← hn]
    exact ⟨rfl,hv.rcv _ (hm hc.1)⟩
   ·cases hx
  ·exact h.2 n x hx hs
 ·exact h
noncomputable def lpRc (rf:Code × Code) (E:FEnv) (busy:Bool):AObj:=.loop 40 (lpEnv 100 (tidyF (some [1,2]) E)) [17,18] rf.1 rf.2 busy none
noncomputable def hpRc (w:Nw) (sent:T) (rf:Code × Code) (E:FEnv) (busy:Bool) (s:List Bx × Nat):Heap :=
 rdH w s.1 s.2 (.t sent) 40++[.row 1 [.ref 6 1 0 0] 0,.row 1 [.t (I 0)] 0,.row 6 [.agg (nwA 3 5 w)] 0,lpRc rf E busy]
theorem hpRc_frz (w:Nw) (sent:T) (rf:Code × Code) (E:FEnv) (hE:E 1=.ref 8 1 0 0∧E 2=.ref 9 1 0 0) (busy:Bool) (s:List Bx × Nat) (h:Heap) (q:Nat) (hq:12≤q):mapO (frzObj h (fromB q)) (hpRc w sent rf E busy s)=some (hpRc w sent rf E busy s):=by
 have f8:decide (q≤8)=false:=decide_eq_false (by omega)
 have f9:decide (q≤9)=false:=decide_eq_false (by omega)
 have f3:decide (q≤3)=false:=decide_eq_false (by omega)
 have f5:decide (q≤5)=false:=decide_eq_false (by omega)
 have f6:decide (q≤6)=false:=decide_eq_false (by omega)
 have h1:frzObj h (fromB q) (lpRc rf E busy)=some (lpRc rf E busy):=by
  rw [lpRc,frz_loop]
  simp only [go_sem,hE,f8,f9]
 have a1:avoidAll (fromB q) [.agg (nwA 3 5 w)]=true:=by simp [nwA,avoidAll,avoid,fromB,f3,f5]
 have a2:avoidAll (fromB q) [.agg (nwA 3 5 w++[.t sent])]=true:=by simp [nwA,avoidAll,avoid,fromB,f3,f5]
 have a3:avoidAll (fromB q) [.ref 6 1 0 0]=true:=by simp [avoidAll,avoid,fromB,f6]
 have a4:∀ x:T,avoidAll (fromB q) [.t x]=true:=fun x=>by simp [avoidAll,avoid]
 simp only [hpRc,rdH,List.cons_append,List.nil_append,dnRow,bsRow,mapO,h1,frz_mapA,frz_rowA a1,frz_rowA a2,frz_rowA a3,frz_rowA (a4 _)]
theorem foldl_eq {α β:Type} {f g:β→α→β}:∀ (l:List α) (s:β),(∀ s,∀ a∈l,f s a=g s a)→l.foldl f s=l.foldl g s:=by
 intro l
 induction l with
 | nil=>intro s _; rfl
 | cons a l ih=>intro s h; rw [List.foldl_cons,List.foldl_cons,h s a (by simp)]; exact ih _ (fun s b hb=>h s b (by simp [hb]))
theorem rcv_l0 (w:Nw) (hok:okT w.t=true) (hd:w.down.length=w.t.links.length) (hbl:(w.bs.length:Int)=w.t.nodes) (sent:T) (rf:Code × Code) (E:FEnv) (hE:E 1=.ref 8 1 0 0∧E 2=.ref 9 1 0 0) (c1 c2 c3:Bool) (b:Br) (n:Nat) (hpo:b.ports=(trunkL w.t n).map ofN) (hnn:stA w.t n=false)
  (hs:List Hd) (hl:hs.length=(trunkL w.t n).length) (hh:∀ h∈hs,h.is=true→helloP h) (s:List Bx × Nat) (hv:vBs w s.1) (hmr:s.2≤w.bs.length) (dd nn:Nat) (hn:200 < nn) (R:Xit→FEnv→Heap→Prop) (e:FEnv)
  (he:e 1=.ref 8 1 0 0∧e 2=.ref 9 1 0 0∧e 4=.ref 13 1 0 0∧e 25=.t (.sl true 8 (hs.map encH))∧e 26=.t (I (hs.length:Nat))∧e 27=.t (I 0))
  (hR:∀ e,(e 1=.ref 8 1 0 0∧e 2=.ref 9 1 0 0)→R (.exit 2) e (hpRc w sent rf E true ((List.range hs.length).foldl (fun s i=>rcvQ w s ((trunkL w.t n)[i]?.getD 0) (hs[i]?.getD zH)) s)++[.row 5 [.t (.agg (brC c1 c2 c3 b))] 1,.row 5 [.t (.agg (brC c1 c2 c3 b))] 1])) :
  wpIter 14 (some [1,2,4,25,26,27]) (wc Try.prog pol (ans Try.prog pol) (inl Try.prog pol (ans Try.prog pol) nn dd) nn 40 il40l0) R nn e (hpRc w sent rf E true s++[.row 5 [.t (.agg (brC c1 c2 c3 b))] 1,.row 5 [.t (.agg (brC c1 c2 c3 b))] 1]):=by
 obtain ⟨z1,z2,z3⟩:=okT_size hok
 refine loop_range hs encH (step:=fun i h s=>.go (rcvQ w s ((trunkL w.t n)[i]?.getD 0) h)) (fin:=id)
  (St:=fun i s e h=>(e 1=.ref 8 1 0 0∧e 2=.ref 9 1 0 0∧e 4=.ref 13 1 0 0∧e 25=.t (.sl true 8 (hs.map encH))∧e 26=.t (I (hs.length:Nat))∧e 27=.t (I (i:Nat)))∧(vBs w s.1∧s.2≤w.bs.length)∧h=hpRc w sent rf E true s++[.row 5 [.t (.agg (brC c1 c2 c3 b))] 1,.row 5 [.t (.agg (brC c1 c2 c3 b))] 1])
  (Ex:=fun s x e h=>(e 1=.ref 8 1 0 0∧e 2=.ref 9 1 0 0)∧x=.exit 2∧h=hpRc w sent rf E true s++[.row 5 [.t (.agg (brC c1 c2 c3 b))] 1,.row 5 [.t (.agg (brC c1 c2 c3 b))] 1]) (s:=s) (by have:=trunk_len w.t n; omega) ?_ ?_ (by have:=trunk_len w.t n; omega) ⟨he,⟨hv,hmr⟩,rfl⟩ ?_
 ·intro i h ss e hp Y R hm hi hx hget hlt hw ⟨hs',⟨hv,hmr⟩,hhp⟩ hk
  subst hhp
  obtain ⟨s,mr⟩:=ss
  dsimp only at hv hmr
  simp only [ctlK_go] at hk
  obtain ⟨p,hp⟩:∃ p,(trunkL w.t n)[i]? = some p:=⟨(trunkL w.t n)[i]'(by omega),by simp [show i < (trunkL w.t n).length by omega]⟩
  rw [hp] at hk
  simp only [Option.getD_some] at hk
  have hpm:=mem_trunk.1 (List.mem_of_getElem? hp)
  obtain ⟨p1,p2,p3⟩:=hpm
  have gp:(b.ports.map I)[i]? = some (I (ofN p)):=by rw [hpo]; simp [hp]
  have hj:p / 2 < w.down.length:=by omega
  have gd:((w.down.map B).map AV.t)[p / 2]? = some (.t (B (dnA w (p / 2)))):=map_get (enc:=B) (by simp [dnA,hj])
  have v2:IntKind.i64.wrap (Int.tdiv (p:Nat) 2)=((p / 2:Nat):Int):=by rw [tdiv2]; exact wrap_i64 (by omega) (by omega)
  have fzl:∀ hx:Heap,frzObj hx (fromB 14) (lpRc rf E true)=some (lpRc rf E true):=fun hx=>by
   rw [lpRc,frz_loop]
   simp only [go_sem,hE]
  have hdl:((w.down.map B).map AV.t).length=w.down.length:=by simp
  simp only [hpRc,rdH,List.cons_append,List.nil_append,nwA,bsRow,dnRow] at hk ⊢
  cases his:h.is with
  | false =>
   have hr:rcvQ w (s,mr) p h=(s,mr):=by rw [rcvQ,if_neg (by simp [his]),rcvP,if_neg (by simp [his])]
   rw [hr] at hk
   obtain ⟨hi0,h1,h2,h3,h4,h5,h6,h7⟩:=h
   dsimp only at his
   subst his
   (repeat' first|simp only [il40l0_go,il40l0b,go_sem,hs',hget,encH_cells,hlt,hw,gp,ofN,frz_mapA,fzl]|(with_reducible first|apply wD|apply wT|(apply wM; intro)|(apply wL; intro))|((with_reducible first|refine wA ?_ ?_|refine wE ?_); rfl))
   all_goals (refine hk _ _ ⟨?_,⟨hv,hmr⟩,?_⟩ <;> simp only [go_sem,hs',hw])
  | true =>
   cases hdn:dnA w (p / 2) with
   | true =>
    have hr:rcvQ w (s,mr) p h=(s,mr):=by rw [rcvQ,if_neg (by simp [hdn]),rcvP,if_neg (by simp [hdn])]
    rw [hr] at hk
    rw [hdn] at gd
    obtain ⟨hi0,h1,h2,h3,h4,h5,h6,h7⟩:=h
    dsimp only at his
    subst his
    (repeat' first|simp only [il40l0_go,il40l0b,go_sem,hs',hget,encH_cells,hlt,hw,gp,ofN,v2,gd,hj,hdl,frz_mapA,fzl]|(with_reducible first|apply wD|apply wT|(apply wM; intro)|(apply wL; intro))|((with_reducible first|refine wA ?_ ?_|refine wE ?_); rfl))
    all_goals (refine hk _ _ ⟨?_,⟨hv,hmr⟩,?_⟩ <;> simp only [go_sem,hs',hw])
   | false =>
    rw [hdn] at gd
    have hhp:=hh h hm his
    obtain ⟨q1,q2⟩:=toP_node hok p1
    obtain ⟨m,hmn⟩:∃ m:Nat,toP w.t p=(m:Nat):=⟨(toP w.t p).toNat,by omega⟩
    have hmN:(toP w.t p).toNat=m:=by omega
    rw [hmN] at p3
    have hml:m < w.bs.length:=by omega
    obtain ⟨y,hy⟩:∃ y,s[m]? = some y:=⟨s[m]'(by rw [hv.1]; exact hml),by simp [hv.1,hml]⟩
    obtain ⟨yz,yv⟩:=hv.2 m y hy p3
    have hrq:rcvQ w (s,mr) p h=(rcvP w s p h,w.bs.length):=by rw [rcvQ,if_pos ⟨his,hdn⟩]
    rw [hrq] at hk
    have hv':=rcvP_ok (p:=p) (m:=h) hv (hh h hm) (by rw [hmN]; exact p3)
    have hrc:rcvP w s p h=s.set m (rcvB y.b (ixP w.t (bk p)) h):=by rw [rcvP,if_pos ⟨his,hdn⟩,hmN,hy]; rfl
    have hbk:bk p∈trunkL w.t (frP w.t (bk p)):=mem_trunk.2 ⟨bk_lt p1,rfl,by rw [bk_to,p2]; simpa using hnn⟩
    obtain ⟨x1,x2,x3⟩:=ixP_spec hbk
    rw [bk_fr,hmn] at x1 x3
    have k2:=other_ans ⟨false,false,false,false,true⟩ ⟨w.t,w.prios,w.down,s⟩ p hok p1
    rw [hmn] at k2
    obtain ⟨yz',d1,d2,d3,yb⟩:=y
    dsimp only at yz yv hrc
    subst yz
    have hyp:=yv.ports
    have k3:=indexI_ans d1 yb.ports (ofN (bk p)) (by rw [hyp]; have:=trunk_len w.t m; simp; omega)
    have hidx:idxL (ofN (bk p)) 0 yb.ports=((ixP w.t (bk p):Nat):Int):=by rw [hyp]; exact x3
    rw [hidx] at k3
    have hix:ixP w.t (bk p) < yb.ports.length:=by rw [hyp]; simpa using x1
    have k4:=Receive_ok d1 d2 d3 yb (ixP w.t (bk p)) h yv.ok hix hhp
    have gx:((s.map encX).map AV.t)[m]? = some (.t (.agg (brC d1 d2 d3 yb))):=map_get (enc:=encX) hy
    have hsl:((s.map encX).map AV.t).length=w.bs.length:=by simp [hv.1]
    have hset:=map_set (enc:=encX) (l:=s) (i:=m) (x:=rcvB yb (ixP w.t (bk p)) h)
    rw [← hrc] at hset
    have hex:encX (rcvB yb (ixP w.t (bk p)) h)=brT true true true (putB yb (yb.heard.set (ixP w.t (bk p)) (rcvH (hrd yb (ixP w.t (bk p))) h))):=rfl
    rw [hex] at hset
    have hx1:=xor1 p (by omega)
    have hav:∀ (q:Nat→Bool) (y:T),avoidAll q (((s.map encX).map AV.t).set m (.t y))=true:=fun q y=>by rw [← List.map_set,av_map]
    rw [← hset] at hk
    generalize putB yb (yb.heard.set (ixP w.t (bk p)) (rcvH (hrd yb (ixP w.t (bk p))) h))=B' at *
    generalize ixP w.t (bk p)=ix at *
    obtain ⟨hi0,h1,h2,h3,h4,h5,h6,h7⟩:=h
    dsimp only at his
    subst his
    (repeat' first|simp only [il40l0_go,il40l0b,go_sem,hs',hget,encH_cells,hlt,hw,gp,ofN,v2,gd,hj,hdl,hsl,k2,k3,k4,gx,hml,hmr,hx1,hav,frz_mapA,fzl]|(with_reducible first|apply wD|apply wT|(apply wM; intro)|(apply wL; intro))|((with_reducible first|refine wA ?_ ?_|refine wE ?_); rfl))
    all_goals (refine hk _ _ ⟨?_,⟨hv',Nat.le_refl _⟩,?_⟩ <;> simp only [go_sem,hs',hw])
 ·intro s e h Y R hlt ⟨hs',_,hh⟩ hk
  subst hh
  (repeat' first|simp only [il40l0_go,il40l0b,go_sem,hs',hlt]|(with_reducible first|apply wD|apply wT|(apply wM; intro)|(apply wL; intro))|((with_reducible first|refine wA ?_ ?_|refine wE ?_); rfl))
  all_goals (refine hk _ _ _ ⟨?_,rfl,rfl⟩; simp only [go_sem,hs',id])
 ·intro x e h ⟨h1,h2,h3⟩
  have hf:∀ (r:List Hd) (i:Nat) (s:List Bx × Nat),foldC (ρ:=List Bx × Nat) (fun i h s=>Ctl.go (rcvQ w s ((trunkL w.t n)[i]?.getD 0) h)) id i r s=(List.range' i r.length).foldl (fun s k=>rcvQ w s ((trunkL w.t n)[k]?.getD 0) (r[k - i]?.getD zH)) s:=by
   intro r
   induction r with
   | nil=>intro i s; rfl
   | cons x r ih =>
    intro i s
    rw [foldC_go (s':=rcvQ w s ((trunkL w.t n)[i]?.getD 0) x) rfl,ih,List.length_cons,List.range'_succ,List.foldl_cons]
    simp only [Nat.sub_self,List.getElem?_cons_zero,Option.getD_some]
    refine foldl_eq _ _ fun s k hk=>?_
    rw [List.mem_range'_1] at hk
    obtain ⟨j,rfl⟩:∃ j,k=i+1+j:=⟨k - (i+1),by omega⟩
    rw [show i+1+j - (i+1)=j by omega,show i+1+j - i=j+1 by omega,List.getElem?_cons_succ]
  rw [hf,← List.range_eq_range'] at h3
  simp only [Nat.sub_zero] at h3
  subst h2 h3
  exact hR _ h1
end Go.Proofs.Ytbibdnlbpjnieaa
namespace Go.Proofs.Ytbibdnlbpjnieaa
open Go Go.Abs
def sentOk (w:Nw) (S:List (Option (List Hd))):Prop:=S.length=w.bs.length∧∀ n,n < w.bs.length→stA w.t n=false→∃ hs,S[n]? = some (some hs)∧hs.length=(trunkL w.t n).length∧∀ h∈hs,h.is=true→helloP h
def rcvN (w:Nw) (S:List (Option (List Hd))) (s:List Bx × Nat) (n:Nat):List Bx × Nat :=
 (List.range ((S[n]?.getD none).getD []).length).foldl (fun s i=>rcvQ w s ((trunkL w.t n)[i]?.getD 0) (((S[n]?.getD none).getD [])[i]?.getD zH)) s
abbrev sentT (S:List (Option (List Hd))):T:=.sl true 1 (S.map encS)
theorem rcvQ_ok {w:Nw} {s:List Bx × Nat} (h:vBs w s.1) (h2:s.2≤w.bs.length) {p:Nat} {m:Hd} (hm:m.is=true→helloP m) (hp:stA w.t (toP w.t p).toNat=false):vBs w (rcvQ w s p m).1∧(rcvQ w s p m).2≤w.bs.length:=by
 refine ⟨rcvP_ok h hm hp,?_⟩
 unfold rcvQ
 dsimp only
 split <;> omega
theorem rcvN_ok {w:Nw} {S:List (Option (List Hd))} (hS:sentOk w S) {s:List Bx × Nat} (h:vBs w s.1) (h2:s.2≤w.bs.length) {n:Nat} (hn:n < w.bs.length) (hst:stA w.t n=false):vBs w (rcvN w S s n).1∧(rcvN w S s n).2≤w.bs.length:=by
 obtain ⟨hs,h1,hl,hh⟩:=hS.2 n hn hst
 rw [rcvN,h1]
 simp only [Option.getD_some]
 have key:∀ (k:Nat),k≤hs.length→vBs w ((List.range k).foldl (fun s i=>rcvQ w s ((trunkL w.t n)[i]?.getD 0) (hs[i]?.getD zH)) s).1∧((List.range k).foldl (fun s i=>rcvQ w s ((trunkL w.t n)[i]?.getD 0) (hs[i]?.getD zH)) s).2≤w.bs.length:=by
  intro k
  induction k with
  | zero=>intro _; exact ⟨h,h2⟩
  | succ k ih =>
   intro hk
   obtain ⟨i1,i2⟩:=ih (by omega)
   rw [List.range_succ,List.foldl_append,List.foldl_cons,List.foldl_nil]
   obtain ⟨p,hp⟩:∃ p,(trunkL w.t n)[k]? = some p:=⟨(trunkL w.t n)[k]'(by omega),by simp [show k < (trunkL w.t n).length by omega]⟩
   obtain ⟨x,hx⟩:∃ x,hs[k]? = some x:=⟨hs[k]'(by omega),by simp [show k < hs.length by omega]⟩
   rw [hp,hx]
   exact rcvQ_ok i1 i2 (hh x (List.mem_of_getElem? hx)) (mem_trunk.1 (List.mem_of_getElem? hp)).2.2
 exact key hs.length (Nat.le_refl _)
theorem receive_yield (rf:Code × Code) (hrf:rfOf Try.prog 40 0=rf) (w:Nw) (hok:okT w.t=true) (hd:w.down.length=w.t.links.length) (hbl:(w.bs.length:Int)=w.t.nodes) (S:List (Option (List Hd))) (hS:sentOk w S)
  (E:FEnv) (hE:E 1=.ref 8 1 0 0∧E 2=.ref 9 1 0 0) (s:List Bx × Nat) (hv:vBs w s.1) (hmr:s.2≤w.bs.length) (n:Nat) (x:Bx) (hx:s.1[n]? = some x) (hst:stA w.t n=false) (dd nn:Nat) (hn:200 < nn) (Q:AV→Heap→Prop)
  (hQ:∀ X',Q (.t (B true)) (hpRc w (sentT S) rf E false (rcvN w S s n)++[.row 5 [.t (.agg (bxC x))] 1]++X')) :
  oB (inl Try.prog pol (ans Try.prog pol) nn (dd+1) (.yl 11) [.t (I (n:Nat)),.t (.agg (bxC x))] (hpRc w (sentT S) rf E false s++[.row 5 [.t (.agg (bxC x))] 1])) Q:=by
 subst hrf
 obtain ⟨xz,xv⟩:=hv.2 n x hx hst
 obtain ⟨z,c1,c2,c3,b⟩:=x
 dsimp only at xz xv hQ
 subst xz
 have hbc:bxC ⟨false,c1,c2,c3,b⟩=brC c1 c2 c3 b:=rfl
 rw [hbc] at hQ ⊢
 have hnl:n < w.bs.length:=by rw [← hv.1]; exact (List.getElem?_eq_some_iff.1 hx).1
 obtain ⟨hs,hs1,hsl,hsh⟩:=hS.2 n hnl hst
 have gs:(S.map encS)[n]? = some (.sl true 8 (hs.map encH)):=by rw [List.getElem?_map,hs1]; rfl
 have hcs:(T.sl true 8 (hs.map encH)).cells=[.sl true 8 (hs.map encH)]:=rfl
 have hr:rcvN w S s n=(List.range hs.length).foldl (fun s i=>rcvQ w s ((trunkL w.t n)[i]?.getD 0) (hs[i]?.getD zH)) s:=by rw [rcvN,hs1]; rfl
 have hq:=hQ [.row 5 [.t (.agg (brC c1 c2 c3 b))] 1]
 rw [hr] at hq
 have key:([.row 6 [.t zN6] 0,.row 3 [.t stepsT] 1,.row 6 [.agg (nwA 3 5 w)] 1,dnRow w,.row 6 [.agg (nwA 3 5 w)] 1,bsRow s.1 s.2,.row 7 [.agg (nwA 3 5 w++[.t (sentT S)])] 1,.row 1 [.t (.agg [.fn (.func 40) [] []])] 1,
  .row 1 [.ref 6 1 0 0] 0,.row 1 [.t (I 0)] 0,.row 6 [.agg (nwA 3 5 w)] 0,.loop 40 (lpEnv 100 (tidyF (some [1,2]) E)) [17,18] (rfOf Try.prog 40 0).1 (rfOf Try.prog 40 0).2 true none,.row 5 [.t (.agg (brC c1 c2 c3 b))] 1,.row 5 [.t (.agg (brC c1 c2 c3 b))] 1]:Heap)
   = hpRc w (sentT S) (rfOf Try.prog 40 0) E true s++[.row 5 [.t (.agg (brC c1 c2 c3 b))] 1,.row 5 [.t (.agg (brC c1 c2 c3 b))] 1]:=rfl
 have hR:=fun (R:Xit→FEnv→Heap→Prop) (e:FEnv) he hR=>rcv_l0 w hok hd hbl (sentT S) (rfOf Try.prog 40 0) E hE c1 c2 c3 b n xv.ports hst hs hsl hsh s hv hmr dd nn hn R e he hR
 rw [← key] at hR
 generalize (List.range hs.length).foldl (fun s i=>rcvQ w s ((trunkL w.t n)[i]?.getD 0) (hs[i]?.getD zH)) s=s2 at *
 simp only [hpRc,rdH,lpRc,List.cons_append,List.nil_append,nwA,bsRow,dnRow] at hq hR ⊢
 refine oB_yl (E:=tidyF (some [1,2]) E) rfl rfl rfl il40r0a_eq il40r0b_eq ?_
 (repeat' first|simp only [il40r0a,il40r0b,go_sem,hE,gs,hcs]|(with_reducible first|apply wD|apply wT|(apply wM; intro)|(apply wL; intro))|((with_reducible first|refine wA ?_ ?_|refine wE ?_); rfl))
 refine hR _ _ (by simp only [go_sem,hE]) ?_
 intro e he
 (repeat' first|simp only [il40r0b,go_sem,he]|(with_reducible first|apply wD|apply wT|(apply wM; intro)|(apply wL; intro))|((with_reducible first|refine wA ?_ ?_|refine wE ?_); rfl))
 all_goals exact hq
theorem stS_ok {w:Nw} {nx:List Bx × Nat→Nat→List Bx × Nat} (hnx:∀ s n,n < w.bs.length→stA w.t n=false→vBs w s.1∧s.2≤w.bs.length→vBs w (nx s n).1∧(nx s n).2≤w.bs.length) {s:List Bx × Nat} {n:Nat} (hn:n < w.bs.length) (h:vBs w s.1∧s.2≤w.bs.length):vBs w (stS w.t nx s n).1∧(stS w.t nx s n).2≤w.bs.length:=by
 unfold stS
 by_cases q:stA w.t n=true
 ·rw [if_pos q]; exact h
 ·rw [if_neg q]; exact hnx s n hn (by simpa using q) h
theorem fold_ok {w:Nw} {nx:List Bx × Nat→Nat→List Bx × Nat} (hnx:∀ s n,n < w.bs.length→stA w.t n=false→vBs w s.1∧s.2≤w.bs.length→vBs w (nx s n).1∧(nx s n).2≤w.bs.length) {s:List Bx × Nat} (h:vBs w s.1∧s.2≤w.bs.length):∀ k,k≤w.bs.length→vBs w ((List.range k).foldl (stS w.t nx) s).1∧((List.range k).foldl (stS w.t nx) s).2≤w.bs.length:=by
 intro k
 induction k with
 | zero=>intro _; exact h
 | succ k ih =>
  intro hk
  rw [List.range_succ,List.foldl_append,List.foldl_cons,List.foldl_nil]
  exact stS_ok hnx (by omega) (ih (by omega))
theorem receive_ok (w:Nw) (hok:okT w.t=true) (hd:w.down.length=w.t.links.length) (hbl:(w.bs.length:Int)=w.t.nodes) (S:List (Option (List Hd))) (hS:sentOk w S) (bs:List Bx) (mr:Nat) (hmr:mr≤w.bs.length) (hv:vBs w bs) (dd nn:Nat) (hn:200 < nn) (Q:AV→Heap→Prop)
  (hQ:Q (.t (I 0)) (rdH w ((List.range w.bs.length).foldl (stS w.t (rcvN w S)) (bs,mr)).1 ((List.range w.bs.length).foldl (stS w.t (rcvN w S)) (bs,mr)).2 (.t (sentT S)) 40++[.row 1 [.ref 6 1 0 0] 0,.row 1 [.t (I 0)] 1,.row 6 [.agg (nwA 3 5 w)] 0])) :
  oB (inl Try.prog pol (ans Try.prog pol) nn (dd+3) (.fn 40) [.ref 6 1 0 0] (rdH w bs mr (.t (sentT S)) 40)) Q:=by
 obtain ⟨z1,z2,z3⟩:=okT_size hok
 refine oB_inl il40_eq (Nat.le_of_ble_eq_true rfl) ?_
 simp only [il40c]
 generalize hrf:rfOf Try.prog 40 0=rf
 simp only [rdH,nwA]
 (repeat' first|simp only [List.cons_append,List.nil_append,go_sem]|(with_reducible first|apply wD|apply wT|(apply wM; intro)|(apply wL; intro))|((with_reducible first|refine wA ?_ ?_|refine wE ?_); rfl)|((with_reducible refine oB_inl il26_eq ?_ ?_); exact Nat.le_of_ble_eq_true rfl; simp only [il26c]))
 have key:∀ E:FEnv,([.row 6 [.t zN6] 0,.row 3 [.t stepsT] 1,.row 6 [.agg (nwA 3 5 w)] 1,dnRow w,.row 6 [.agg (nwA 3 5 w)] 1,bsRow bs mr,.row 7 [.agg (nwA 3 5 w++[.t (sentT S)])] 1,.row 1 [.t (.agg [.fn (.func 40) [] []])] 1,
  .row 1 [.ref 6 1 0 0] 0,.row 1 [.t (I 0)] 0,.row 6 [.agg (nwA 3 5 w)] 0,.loop 40 (lpEnv 100 (tidyF (some [1,2]) E)) [17,18] rf.1 rf.2 false none]:Heap)=hpRc w (sentT S) rf E false (bs,mr):=fun E=>rfl
 simp only [nwA,List.cons_append,List.nil_append] at key
 rw [key]
 have h1112:11 < 12:=by omega
 have h1012:10 < 12:=by omega
 have h512:5 < 12:=by omega
 have h01:0≤1:=by omega
 have hI0:vBs w (bs,mr).1∧(bs,mr).2≤w.bs.length:=⟨hv,hmr⟩
 have hb100:w.bs.length≤100:=by omega
 have hnx:∀ (s:List Bx × Nat) n,n < w.bs.length→stA w.t n=false→vBs w s.1∧s.2≤w.bs.length→vBs w (rcvN w S s n).1∧(rcvN w S s n).2≤w.bs.length:=fun s n hn hs h=>rcvN_ok hS h.1 h.2 hn hs
 have hfold:=fold_ok hnx hI0 w.bs.length (Nat.le_refl _)
 -- the state,held to what is valid
 let σ:={ s:List Bx × Nat // vBs w s.1∧s.2≤w.bs.length }
 let nx:σ→Nat→σ:=fun s n=>if h:n < w.bs.length∧stA w.t n=false then ⟨rcvN w S s.1 n,hnx s.1 n h.1 h.2 s.2⟩ else s
 have hnxv:∀ (s:σ) n,n < w.bs.length→stA w.t n=false→(nx s n).1=rcvN w S s.1 n:=fun s n h1 h2=>by simp only [nx]; rw [dif_pos ⟨h1,h2⟩]
 have hstv:∀ (s:σ) n,n < w.bs.length→(stS w.t nx s n).1=stS w.t (rcvN w S) s.1 n:=fun s n h1=>by
  unfold stS
  by_cases q:stA w.t n=true
  ·rw [if_pos q,if_pos q]
  ·rw [if_neg q,if_neg q]; exact hnxv s n h1 (by simpa using q)
 have hfv:∀ (s:σ) k,k≤w.bs.length→((List.range k).foldl (stS w.t nx) s).1=(List.range k).foldl (stS w.t (rcvN w S)) s.1:=by
  intro s k
  induction k with
  | zero=>intro _; rfl
  | succ k ih =>
   intro hk
   rw [List.range_succ,List.foldl_append,List.foldl_append,List.foldl_cons,List.foldl_cons,List.foldl_nil,List.foldl_nil,hstv _ _ (by omega),ih (by omega)]
 have hLs:∀ s:σ,s.1.1.length=w.bs.length:=fun s=>by have h:=s.2.1; unfold vBs at h; exact h.1
 have hs0:∀ E:FEnv,hpRc w (sentT S) rf E false (bs,mr)=(fun s:σ=>hpRc w (sentT S) rf E false s.1) ⟨(bs,mr),hI0⟩:=fun E=>rfl
 rw [hs0]
 with_reducible refine all_iterR (fun s:σ=>hpRc w (sentT S) rf _ false s.1) 12 (fun s=>rfl) nx (dd+1) nn 11 (fun n s=>True) w (fun _ _ _ _=>trivial) ?_ h1112 10 3 5 0 h1012 h01 h512 (fun s=>s.1.1) (fun s=>s.1.2) hLs (fun s=>s.2.2) (fun _ _=>rfl) (fun _ _=>rfl) z2 hbl hb100 ?_ ⟨(bs,mr),hI0⟩ trivial _ hn ?_
 ·intro s h q hq
  exact hpRc_frz w (sentT S) rf _ (by simp only [go_sem]) false s.1 h q hq
 ·intro s n x Q hx hs _ hQ
  have hnl:n < w.bs.length:=by rw [← hLs s]; exact (List.getElem?_eq_some_iff.1 hx).1
  have hQ':∀ X',Q (.t (B true)) (hpRc w (sentT S) rf _ false (nx s n).1++[.row 5 [.t (.agg (bxC x))] 1]++X'):=hQ
  rw [hnxv s n hnl hs] at hQ'
  exact receive_yield rf hrf w hok hd hbl S hS _ (by simp only [go_sem]) s.1 s.2.1 s.2.2 n x hx hs dd nn hn Q hQ'
 ·intro v
  change rfEnd _ _ _ v (hpRc w (sentT S) rf _ false ((List.range w.bs.length).foldl (stS w.t nx) ⟨(bs,mr),hI0⟩).1)
  rw [hfv _ _ (Nat.le_refl _)]
  generalize (List.range w.bs.length).foldl (stS w.t (rcvN w S)) (bs,mr)=s at *
  simp only [hpRc,rdH,lpRc,List.cons_append,List.nil_append,nwA,bsRow,dnRow] at hQ ⊢
  (repeat' first|simp only [il40c,go_sem,frz_mapA]|(with_reducible first|apply wD|apply wT|(apply wM; intro)|(apply wL; intro))|((with_reducible first|refine wA ?_ ?_|refine wE ?_); rfl))
  all_goals exact hQ
end Go.Proofs.Ytbibdnlbpjnieaa
