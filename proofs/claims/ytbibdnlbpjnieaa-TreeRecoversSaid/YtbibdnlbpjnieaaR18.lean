/- Part 18 of the proof of TreeRecovers. -/
import Derived.Test.YtbibdnlbpjnieaaR17
set_option linter.all false
set_option maxRecDepth 100000
set_option maxHeartbeats 4000000
namespace Go.Proofs.Ytbibdnlbpjnieaa
open Go Go.Abs
def okN (w:Nw):Bool:=okT w.t && (rankL w.t w.prios && (decide ((w.bs.length:Int)=w.t.nodes) && (decide (w.down.length=w.t.links.length) && (List.range w.bs.length).all (soundN w))))
def zOk (w:Nw):Prop:=∀ n,n < w.bs.length→(bxA w n).z=true→stA w.t n=true∧(bxA w n).b=zBr
theorem CheckN_ans (f:Fl) (w:Nw) (hz:zOk w) (h1:w.prios.length≤900) (h2:w.bs.length≤900):ans Try.prog pol 18 [nwT f w]=some (I (if okN w=true then 0 else 300)):=by
 have k1:=Check_ans f.st f.lk w.t
 have k2:=ranked_ans f.pr f.st f.lk w.t w.prios h1
 cases q1:okT w.t with
 | false =>
  rw [q1,if_neg (by simp)] at k1
  rw [if_neg (by simp [okN,q1])]
  refine ans_go 1000 1 il18_eq (Nat.le_of_ble_eq_true rfl) ?_
  (repeat' first|simp only [il18c,go_sem,k1]|(with_reducible first|apply wD|apply wT|(apply wM; intro)|(apply wL; intro))|((with_reducible first|refine wA ?_ ?_|refine wE ?_); rfl))
 | true =>
  rw [q1,if_pos rfl] at k1
  cases q2:rankL w.t w.prios with
  | false =>
   rw [q2] at k2
   rw [if_neg (by simp [okN,q1,q2])]
   refine ans_go 1000 1 il18_eq (Nat.le_of_ble_eq_true rfl) ?_
   (repeat' first|simp only [il18c,go_sem,k1,k2]|(with_reducible first|apply wD|apply wT|(apply wM; intro)|(apply wL; intro))|((with_reducible first|refine wA ?_ ?_|refine wE ?_); rfl))
  | true =>
   rw [q2] at k2
   by_cases q3:(w.bs.length:Int)=w.t.nodes
   rotate_left
   ·have d3:=decide_eq_false q3
    rw [if_neg (by simp [okN,q1,q2,d3])]
    refine ans_go 1000 1 il18_eq (Nat.le_of_ble_eq_true rfl) ?_
    (repeat' first|simp only [il18c,go_sem,k1,k2,d3]|(with_reducible first|apply wD|apply wT|(apply wM; intro)|(apply wL; intro))|((with_reducible first|refine wA ?_ ?_|refine wE ?_); rfl))
   have d3:=decide_eq_true q3
   by_cases q4:w.down.length=w.t.links.length
   rotate_left
   ·have d4:decide ((w.down.length:Int)=(w.t.links.length:Nat))=false:=decide_eq_false (by omega)
    rw [if_neg (by simp [okN,q1,q2,d3,q4])]
    refine ans_go 1000 1 il18_eq (Nat.le_of_ble_eq_true rfl) ?_
    (repeat' first|simp only [il18c,go_sem,k1,k2,d3,d4]|(with_reducible first|apply wD|apply wT|(apply wM; intro)|(apply wL; intro))|((with_reducible first|refine wA ?_ ?_|refine wE ?_); rfl))
   have d4:decide ((w.down.length:Int)=(w.t.links.length:Nat))=true:=decide_eq_true (by omega)
   have hok:okN w=(List.range w.bs.length).all (soundN w):=by rw [okN,q1,q2,d3,decide_eq_true q4]; rfl
   rw [hok]
   refine ans_go 1000 1 il18_eq (Nat.le_of_ble_eq_true rfl) ?_
   (repeat' first|simp only [il18c,go_sem,k1,k2,d3,d4]|(with_reducible first|apply wD|apply wT|(apply wM; intro)|(apply wL; intro))|((with_reducible first|refine wA ?_ ?_|refine wE ?_); rfl))
   refine loop_range w.bs encX (step:=fun i _ (_:Unit)=>if soundN w i=true then Ctl.go () else Ctl.out false) (fin:=fun _=>true)
    (St:=fun i _ e h=>(e 1=.t (.ip (nwC f w))∧e 35=.t (I (w.bs.length:Nat))∧e 36=.t (I (i:Nat)))∧h=[])
    (Ex:=fun r x e h=>r=true∧x=.exit 0∨r=false∧x=.ret∧e 2=.t (I 300)) (s:=()) (by omega) ?_ ?_ (by omega) ?_ ?_
   ·intro i x _ e h Y R hm hi hx hget hlt hw ⟨hs,hh⟩ hk
    subst hh
    have k3:=nsound_ans f w i q1 q2 q4 (by omega) hi (hz i hi)
    cases hb:soundN w i with
    | true =>
     rw [hb] at k3
     rw [if_pos hb,ctlK_go] at hk
     (repeat' first|simp only [il18l0_go,il18l0b,go_sem,hs,hlt,hw,k3]|(with_reducible first|apply wD|apply wT|(apply wM; intro)|(apply wL; intro))|((with_reducible first|refine wA ?_ ?_|refine wE ?_); rfl))
     all_goals (refine hk _ _ ⟨?_,rfl⟩; simp only [go_sem,hs,hw])
    | false =>
     rw [hb] at k3
     rw [if_neg (by rw [hb]; simp),ctlK_out] at hk
     (repeat' first|simp only [il18l0_go,il18l0b,go_sem,hs,hlt,hw,k3]|(with_reducible first|apply wD|apply wT|(apply wM; intro)|(apply wL; intro))|((with_reducible first|refine wA ?_ ?_|refine wE ?_); rfl))
     all_goals (refine hk _ _ _ (.inr ?_); simp only [go_sem])
   ·intro _ e h Y R hlt ⟨hs,hh⟩ hk
    subst hh
    (repeat' first|simp only [il18l0_go,il18l0b,go_sem,hs,hlt]|(with_reducible first|apply wD|apply wT|(apply wM; intro)|(apply wL; intro))|((with_reducible first|refine wA ?_ ?_|refine wE ?_); rfl))
    all_goals (refine hk _ _ _ (.inl ?_); simp only [go_sem])
   ·refine ⟨?_,rfl⟩
    simp only [go_sem]
   ·intro x e h hx
    rw [foldC_idx,← List.range_eq_range'] at hx
    rcases hx with ⟨hb,rfl⟩|⟨hb,rfl,e2⟩
    ·rw [hb,if_pos rfl]
     (repeat' first|simp only [il18c,go_sem]|(with_reducible first|apply wD|apply wT|(apply wM; intro)|(apply wL; intro))|((with_reducible first|refine wA ?_ ?_|refine wE ?_); rfl))
    ·rw [hb,if_neg (by simp)]
     (repeat' first|simp only [il18c,go_sem,e2]|(with_reducible first|apply wD|apply wT|(apply wM; intro)|(apply wL; intro))|((with_reducible first|refine wA ?_ ?_|refine wE ?_); rfl))
end Go.Proofs.Ytbibdnlbpjnieaa
namespace Go.Proofs.Ytbibdnlbpjnieaa
open Go Go.Abs
theorem cloneI_nil (c:Bool) (k:Nat):ans Try.prog pol 55 [.sl c k []]=some (.sl false k []):=ans_prim rfl
theorem cloneI_no:ans Try.prog pol 55 [.sc (.slice none 0 0)]=some (.sc (.slice none 0 0)):=ans_of_run (n:=10) 3 (by kernel_rfl)
theorem cloneI_ans (c:Bool) (l:List (Int)) (hl:l.length≤1000):ans Try.prog pol 55 [.sl c 1 (l.map I)]=some (.sl false 1 (l.map I)):=by
 cases l with
 | nil=>exact cloneI_nil c 1
 | cons x l =>
  have hroom:(l.length+1)*8≤roomB:=ap_room (by simp at hl; omega) (by omega)
  refine ans_go 10 1 il55_eq (Nat.le_of_ble_eq_true rfl) ?_
  simp only [List.map_cons]
  (repeat' first|simp only [il55c,go_sem,hroom]|(with_reducible first|apply wD|apply wT|(apply wM; intro)|(apply wL; intro))|((with_reducible first|refine wA ?_ ?_|refine wE ?_); rfl))
theorem cloneB_nil (c:Bool) (k:Nat):ans Try.prog pol 56 [.sl c k []]=some (.sl false k []):=ans_prim rfl
theorem cloneB_ans (c:Bool) (l:List (Bool)) (hl:l.length≤1000):ans Try.prog pol 56 [.sl c 1 (l.map B)]=some (.sl false 1 (l.map B)):=by
 cases l with
 | nil=>exact cloneB_nil c 1
 | cons x l =>
  have hroom:(l.length+1)*1≤roomB:=ap_room (by simp at hl; omega) (by omega)
  refine ans_go 10 1 il56_eq (Nat.le_of_ble_eq_true rfl) ?_
  simp only [List.map_cons]
  (repeat' first|simp only [il56c,go_sem,hroom]|(with_reducible first|apply wD|apply wT|(apply wM; intro)|(apply wL; intro))|((with_reducible first|refine wA ?_ ?_|refine wE ?_); rfl))
theorem cloneH_nil (c:Bool) (k:Nat):ans Try.prog pol 23 [.sl c k []]=some (.sl false k []):=ans_prim rfl
theorem cloneH_no:ans Try.prog pol 23 [.sc (.slice none 0 0)]=some (.sc (.slice none 0 0)):=ans_of_run (n:=10) 3 (by kernel_rfl)
theorem cloneH_ans (c:Bool) (l:List (Hd)) (hl:l.length≤1000):ans Try.prog pol 23 [.sl c 8 (l.map encH)]=some (.sl false 8 (l.map encH)):=by
 cases l with
 | nil=>exact cloneH_nil c 8
 | cons x l =>
  have hroom:(l.length+1)*64≤roomB:=ap_room (by simp at hl; omega) (by omega)
  refine ans_go 10 1 il23_eq (Nat.le_of_ble_eq_true rfl) ?_
  simp only [List.map_cons]
  (repeat' first|simp only [il23c,go_sem,hroom]|(with_reducible first|apply wD|apply wT|(apply wM; intro)|(apply wL; intro))|((with_reducible first|refine wA ?_ ?_|refine wE ?_); rfl))
theorem cloneK_nil (c:Bool) (k:Nat):ans Try.prog pol 57 [.sl c k []]=some (.sl false k []):=ans_prim rfl
theorem cloneK_ans (c:Bool) (l:List (Lk)) (hl:l.length≤1000):ans Try.prog pol 57 [.sl c 4 (l.map encK)]=some (.sl false 4 (l.map encK)):=by
 cases l with
 | nil=>exact cloneK_nil c 4
 | cons x l =>
  have hroom:(l.length+1)*32≤roomB:=ap_room (by simp at hl; omega) (by omega)
  refine ans_go 10 1 il57_eq (Nat.le_of_ble_eq_true rfl) ?_
  simp only [List.map_cons]
  (repeat' first|simp only [il57c,go_sem,hroom]|(with_reducible first|apply wD|apply wT|(apply wM; intro)|(apply wL; intro))|((with_reducible first|refine wA ?_ ?_|refine wE ?_); rfl))
theorem rg_get0 {m:Nat} {x:AObj} {l:Heap}:(List.replicate m AObj.gone++x::l)[m]? = some x:=by rw [List.getElem?_append_right (by simp)]; simp
theorem rg_get {m j:Nat} {l:Heap}:(List.replicate m AObj.gone++l)[m+j]? = l[j]?:=by rw [List.getElem?_append_right (by simp)]; simp
theorem rg_set0 {m:Nat} {x y:AObj} {l:Heap}:List.set (List.replicate m AObj.gone++x::l) m y=List.replicate m AObj.gone++y::l:=by rw [List.set_append]; simp
theorem rg_set {m j:Nat} {y:AObj} {l:Heap}:List.set (List.replicate m AObj.gone++l) (m+j) y=List.replicate m AObj.gone++l.set j y:=by
 rw [List.set_append,if_neg (by simp)]; simp
theorem rg_drop {m:Nat} {l:Heap}:(List.replicate m AObj.gone++l).drop m=l:=by simp
theorem rg_take {m j:Nat} {l:Heap}:(List.replicate m AObj.gone++l).take (m+j)=List.replicate m AObj.gone++l.take j:=by
 rw [List.take_append]; simp
def apG (m:Nat):Option Heap→Option Heap
 | some l=>some (List.replicate m .gone++l)
 | none=>none
theorem apG_some {m:Nat} {l:Heap}:apG m (some l)=some (List.replicate m .gone++l):=rfl
theorem rg_frz {m:Nat} {hx:Heap} {p:Nat→Bool} {l:Heap}:mapO (frzObj hx p) (List.replicate m .gone++l)=apG m (mapO (frzObj hx p) l):=by
 induction m with
 | zero=>simp only [List.replicate_zero,List.nil_append]; cases mapO (frzObj hx p) l <;> rfl
 | succ m ih =>
  rw [List.replicate_succ,List.cons_append]
  simp only [mapO,ih]
  cases mapO (frzObj hx p) l <;> simp [apG,frzObj,List.replicate_succ]
theorem cloneB_fresh (c:Bool) (l:List Bool) (hl:l.length≤1000) (hne:l≠[]) (m dd nn:Nat) (hn:0 < nn) (Q:AV→Heap→Prop) (hQ:Q (.ms m l.length 0 l.length 1 false) (List.replicate m .gone++[.row 1 ((l.map B).map .t) 0])) :
  oB (inl Try.prog pol (ans Try.prog pol) nn (dd+1) (.fn 56) [.t (.sl c 1 (l.map B))] (List.replicate m .gone)) Q:=by
 cases l with
 | nil=>exact absurd rfl hne
 | cons x l =>
  have hroom:(l.length+1)*1≤roomB:=ap_room (by simp at hl; omega) (by omega)
  refine oB_inl il56_eq (Nat.le_of_ble_eq_true rfl) ?_
  simp only [List.map_cons,List.length_cons] at hQ ⊢
  (repeat' first|simp only [il56c,go_sem,hroom,List.length_replicate]|(with_reducible first|apply wD|apply wT|(apply wM; intro)|(apply wL; intro))|((with_reducible first|refine wA ?_ ?_|refine wE ?_); rfl))
  all_goals exact hQ
end Go.Proofs.Ytbibdnlbpjnieaa
namespace Go.Proofs.Ytbibdnlbpjnieaa
open Go Go.Abs
def cpX (x:Bx):Bx:=if x.z=true then x else ⟨false,false,false,false,x.b⟩
def cpL (l:List Bx) (i:Nat):List Bx:=(l.take i).map cpX++l.drop i
theorem cpL_len (l:List Bx) (i:Nat):(cpL l i).length=l.length:=by simp [cpL]; omega
theorem cpL_get {l:List Bx} {i:Nat} {x:Bx} (h:l[i]? = some x):(cpL l i)[i]? = some x:=by
 have hi:i < l.length:=(List.getElem?_eq_some_iff.1 h).1
 rw [cpL,List.getElem?_append_right (by simp; omega)]
 simp only [List.length_map,List.length_take,Nat.min_eq_left (Nat.le_of_lt hi),Nat.sub_self,List.getElem?_drop,Nat.add_zero]
 exact h
theorem cpL_set {l:List Bx} {i:Nat} {x:Bx} (h:l[i]? = some x):(cpL l i).set i (cpX x)=cpL l (i+1):=by
 have hi:i < l.length:=(List.getElem?_eq_some_iff.1 h).1
 have hx:l[i]=x:=(List.getElem?_eq_some_iff.1 h).2
 rw [cpL,cpL,List.set_append,if_neg (by simp; omega),List.drop_eq_getElem_cons hi,hx]
 have:i - ((l.take i).map cpX).length=0:=by simp; omega
 rw [this,List.set_cons_zero,List.take_succ_eq_append_getElem hi,hx]
 simp
theorem cpL_zero (l:List Bx):cpL l 0=l:=by simp [cpL]
theorem cpL_all (l:List Bx):cpL l l.length=l.map cpX:=by simp [cpL]
def nwA (d o:Nat) (w:Nw):List AV:=[.t (I w.t.nodes),.t (.sl false 1 (w.t.station.map B)),.t (.sl false 4 (w.t.links.map encK)),.t (.sl false 1 (w.prios.map I)),.ms d w.down.length 0 w.down.length 1 false,.ms o w.bs.length 0 w.bs.length 5 true]
def dnRow (w:Nw):AObj:=.row 1 ((w.down.map B).map .t) 0
def bsRow (l:List Bx) (mr:Nat):AObj:=.row 5 ((l.map encX).map .t) mr
theorem copied_fresh (f:Fl) (w:Nw) (hd:w.down≠[]) (b1:w.prios.length≤900) (b2:w.down.length≤900) (b3:w.bs.length≤900) (b4:w.t.station.length≤900) (b5:w.t.links.length≤900)
  (b6:∀ x∈w.bs,x.b.ports.length≤900∧x.b.costs.length≤900∧x.b.heard.length≤900)
  (m dd nn:Nat) (hn:1000 < nn) (Q:AV→Heap→Prop)
  (hQ:∀ mr,mr≤w.bs.length→Q (.agg (nwA (m+1) (m+3) w)) (List.replicate m .gone++[.row 6 [.agg (nwA (m+1) (m+3) w)] 1,dnRow w,.row 6 [.agg (nwA (m+1) (m+3) w)] 1,bsRow (w.bs.map cpX) mr])) :
  oB (inl Try.prog pol (ans Try.prog pol) nn (dd+2) (.fn 30) [.t (nwT f w)] (List.replicate m .gone)) Q:=by
 have k1:=cloneI_ans f.pr w.prios (by omega)
 have k3:=cloneK_ans f.lk w.t.links (by omega)
 have hroom:88*w.bs.length≤roomB:=by rw [Nat.mul_comm]; exact ap_room (by omega) (by omega)
 have hbig:w.bs.length≤9223372036854775807:=by omega
 have prd:primB pol 56 [.t (.sl f.dn 1 (w.down.map B))]=false:=by
  obtain ⟨b,l,hl⟩:=List.exists_cons_of_ne_nil hd
  rw [hl]; simp only [List.map_cons,prB_cons]
 refine oB_inl il30_eq (Nat.le_of_ble_eq_true rfl) ?_
 (repeat' first|simp only [il30c,go_sem,k1,prd,List.length_replicate]|(with_reducible first|apply wD|apply wT|(apply wM; intro)|(apply wL; intro))|((with_reducible first|refine wA ?_ ?_|refine wE ?_); rfl))
 refine cloneB_fresh f.dn w.down (by omega) hd (m+1) dd nn (by omega) _ ?_
 have k2:=cloneB_ans f.st w.t.station (by omega)
 have rgd:∀ (a:AObj) (l:Heap),(List.replicate m AObj.gone++a::l)[m]? = some a:=fun a l=>rg_get0
 have rg1:∀ (a b:AObj) (l:Heap),(List.replicate m AObj.gone++a::b::l)[m+1]? = some b:=fun a b l=>rg_get (l:=a::b::l) (j:=1)
 have rg2:∀ (a b c:AObj) (l:Heap),(List.replicate m AObj.gone++a::b::c::l)[m+2]? = some c:=fun a b c l=>rg_get (l:=a::b::c::l) (j:=2)
 have rg3:∀ (a b c d:AObj) (l:Heap),(List.replicate m AObj.gone++a::b::c::d::l)[m+3]? = some d:=fun a b c d l=>rg_get (l:=a::b::c::d::l) (j:=3)
 have rg4:∀ (a b c d x:AObj) (l:Heap),(List.replicate m AObj.gone++a::b::c::d::x::l)[m+4]? = some x:=fun a b c d x l=>rg_get (l:=a::b::c::d::x::l) (j:=4)
 have rs0:∀ (a y:AObj) (l:Heap),List.set (List.replicate m AObj.gone++a::l) m y=List.replicate m AObj.gone++y::l:=fun a y l=>rg_set0
 have rs2:∀ (a b c y:AObj) (l:Heap),List.set (List.replicate m AObj.gone++a::b::c::l) (m+2) y=List.replicate m AObj.gone++a::b::y::l:=fun a b c y l=>rg_set (l:=a::b::c::l) (j:=2)
 have rs3:∀ (a b c d y:AObj) (l:Heap),List.set (List.replicate m AObj.gone++a::b::c::d::l) (m+3) y=List.replicate m AObj.gone++a::b::c::y::l:=fun a b c d y l=>rg_set (l:=a::b::c::d::l) (j:=3)
 have rs4:∀ (a b c d x y:AObj) (l:Heap),List.set (List.replicate m AObj.gone++a::b::c::d::x::l) (m+4) y=List.replicate m AObj.gone++a::b::c::d::y::l:=fun a b c d x y l=>rg_set (l:=a::b::c::d::x::l) (j:=4)
 have cp:=fun (hx:Heap)=>cpB_full (size:=5) (n:=w.bs.length) (o:=m+3) (mr:=0) (h:=hx) (xs:=(w.bs.map encX).map .t) (elems:=List.replicate w.bs.length (.t (encX zBx))) (by simp) (by simp) (Nat.zero_le _)
 have hz:encX zBx=.agg [I 0,I 0,.sc (.slice none 0 0),.sc (.slice none 0 0),.sc (.slice none 0 0)]:=rfl
 simp only [hz] at cp
 (repeat' first|simp only [il30c,go_sem,k1,k2,k3,rg_drop,rgd,rg1,rg2,rg3,rs0,rs2,rs3,rs4,List.length_replicate,List.append_assoc,hroom,hbig,cp]|(with_reducible first|apply wD|apply wT|(apply wM; intro)|(apply wL; intro))|((with_reducible first|refine wA ?_ ?_|refine wE ?_); rfl))
 refine ⟨⟨by omega,by simp⟩,by omega,by omega,?_,?_⟩
 ·have s1:m+3 - (m+2)=1:=by omega
  have s2:m+2 - (m+1)=1:=by omega
  simp [critOk,apartB,s1,s2,List.range'_succ]
 have l3:∀ (a b c:AObj),(List.replicate m AObj.gone++[a,b,c]).length=m+3:=fun a b c=>by simp
 (repeat' first|simp only [go_sem,k1,k2,k3,rg_drop,rgd,rg1,rg2,rg3,rs0,rs2,rs3,rs4,List.length_replicate,List.append_assoc,hroom,hbig,cp]|(with_reducible first|apply wD|apply wT|(apply wM; intro)|(apply wL; intro))|((with_reducible first|refine wA ?_ ?_|refine wE ?_); rfl))
 have hz6:∃ z6:AObj,z6=.row 6 [.t (.agg [I 0,.sc (.slice none 0 0),.sc (.slice none 0 0),.sc (.slice none 0 0),.sc (.slice none 0 0),.sc (.slice none 0 0)])] 0:=⟨_,rfl⟩
 refine loop_range w.bs encX (step:=fun i x (_:Unit)=>Ctl.go ()) (fin:=id)
  (St:=fun i _ e h=>(e 2=.ref m 1 0 0∧e 3=.ref (m+2) 1 0 0∧e 38=.t (.sl f.bs 5 (w.bs.map encX))∧e 39=.t (I (w.bs.length:Nat))∧e 40=.t (I (i:Nat))) ∧
   h=List.replicate m .gone++[.row 6 [.t (.agg [I 0,.sc (.slice none 0 0),.sc (.slice none 0 0),.sc (.slice none 0 0),.sc (.slice none 0 0),.sc (.slice none 0 0)])] 0,dnRow w,.row 6 [.agg (nwA (m+1) (m+3) w)] 1,bsRow (cpL w.bs i) w.bs.length])
  (Ex:=fun _ x e h=>(e 2=.ref m 1 0 0∧e 3=.ref (m+2) 1 0 0)∧x=.exit 0 ∧
   h=List.replicate m .gone++[.row 6 [.t (.agg [I 0,.sc (.slice none 0 0),.sc (.slice none 0 0),.sc (.slice none 0 0),.sc (.slice none 0 0),.sc (.slice none 0 0)])] 0,dnRow w,.row 6 [.agg (nwA (m+1) (m+3) w)] 1,bsRow (w.bs.map cpX) w.bs.length]) (s:=()) (by omega) ?_ ?_ (by omega) ?_ ?_
 ·intro i x _ e h Y R hm hi hx hget hlt hw ⟨hs,hh⟩ hk
  subst hh
  simp only [ctlK_go] at hk
  obtain ⟨p1,p2,p3⟩:=b6 x hm
  have hl:=cpL_len w.bs i
  have hgx:(((cpL w.bs i).map encX).map AV.t)[i]? = some (.t (encX x)):=map_get (enc:=encX) (cpL_get hx)
  have hset:=map_set (enc:=encX) (l:=cpL w.bs i) (i:=i) (x:=cpX x)
  rw [cpL_set hx] at hset
  have hlE:(((cpL w.bs i).map encX).map AV.t).length=w.bs.length:=by simp [hl]
  simp only [bsRow] at hk ⊢
  have hav:∀ (p:Nat→Bool) (y:T),avoidAll p ((((cpL w.bs i).map encX).map AV.t).set i (.t y))=true:=fun p y=>by rw [← List.map_set,av_map]
  rw [← hset] at hk
  generalize ((cpL w.bs i).map encX).map AV.t=E at *
  have hE1:∀ y:AV,(E.set i y)[i]? = some y:=fun y=>by rw [List.getElem?_set_self (by omega)]
  have hE2:∀ y:AV,(E.set i y).length=w.bs.length:=fun y=>by simp [hlE]
  have hE3:∀ y z:AV,(E.set i y).set i z=E.set i z:=fun y z=>by simp
  have h45:m+4 < m+5:=by omega
  have fz:∀ hx:Heap,frzObj hx (fromB (m+4)) (.row 6 [.agg (nwA (m+1) (m+3) w)] 1)=some (.row 6 [.agg (nwA (m+1) (m+3) w)] 1):=fun hx=>frzObj_row (by simp [nwA,avoidAll,avoid,fromB])
  simp only [nwA] at fz
  have fr0:∀ hx:Heap,frz hx (fromB (m+4)) (.ref m 1 0 0)=some (.ref m 1 0 0):=fun hx=>frz_ref (by simp [fromB])
  have fr2:∀ hx:Heap,frz hx (fromB (m+4)) (.ref (m+2) 1 0 0)=some (.ref (m+2) 1 0 0):=fun hx=>frz_ref (by simp [fromB])
  have f0:decide (m+4≤m)=false:=decide_eq_false (by omega)
  have f1:decide (m+4≤m+1)=false:=decide_eq_false (by omega)
  have f2:decide (m+4≤m+2)=false:=decide_eq_false (by omega)
  have f3:decide (m+4≤m+3)=false:=decide_eq_false (by omega)
  have hi':i < w.bs.length:=hi
  have rt4:∀ (a b c d x:AObj) (l:Heap),(List.replicate m AObj.gone++a::b::c::d::x::l).take (m+4)=List.replicate m AObj.gone++[a,b,c,d]:=fun a b c d x l=>rg_take (l:=a::b::c::d::x::l) (j:=4)
  have n1:=cloneI_no
  have n2:=cloneH_no
  obtain ⟨z,c1,c2,c3,b⟩:=x
  dsimp only at p1 p2 p3
  cases z with
  | true =>
   simp only [encX,bxC,cpX,if_true] at hgx hget hk
   have hcell:(T.agg [I 0,I 0,.sc (.slice none 0 0),.sc (.slice none 0 0),.sc (.slice none 0 0)]).cells=[I 0,I 0,.sc (.slice none 0 0),.sc (.slice none 0 0),.sc (.slice none 0 0)]:=rfl
   (repeat' first|simp only [il30l0_go,il30l0b,go_sem,hs,hget,hlt,hw,hcell,nwA,rgd,rg1,rg2,rg3,rg4,rs0,rs2,rs3,rs4,rg_frz,rt4,apG_some,List.length_replicate,List.append_assoc,hgx,hlE,hE1,hE2,hE3,hi',n1,n2,hav,h45,f0,f1,f2,f3,fz,dnRow]|(with_reducible first|apply wD|apply wT|(apply wM; intro)|(apply wL; intro))|((with_reducible first|refine wA ?_ ?_|refine wE ?_); rfl))
   all_goals (refine hk _ _ ⟨?_,?_⟩ <;> simp only [go_sem,hs,hw,fr0,fr2,dnRow,nwA])
  | false =>
   simp only [encX,bxC,cpX,Bool.false_eq_true,if_false] at hgx hget hk
   have hcell:(T.agg (brC c1 c2 c3 b)).cells=brC c1 c2 c3 b:=rfl
   have m1:=cloneI_ans c1 b.ports (by omega)
   have m2:=cloneI_ans c2 b.costs (by omega)
   have m3:=cloneH_ans c3 b.heard (by omega)
   (repeat' first|simp only [il30l0_go,il30l0b,go_sem,hs,hget,hlt,hw,hcell,nwA,rgd,rg1,rg2,rg3,rg4,rs0,rs2,rs3,rs4,rg_frz,rt4,apG_some,List.length_replicate,List.append_assoc,hgx,hlE,hE1,hE2,hE3,hi',m1,m2,m3,hav,h45,f0,f1,f2,f3,fz,dnRow]|(with_reducible first|apply wD|apply wT|(apply wM; intro)|(apply wL; intro))|((with_reducible first|refine wA ?_ ?_|refine wE ?_); rfl))
   all_goals (refine hk _ _ ⟨?_,?_⟩ <;> simp only [go_sem,hs,hw,fr0,fr2,dnRow,nwA])
 ·intro _ e h Y R hlt ⟨hs,hh⟩ hk
  subst hh
  (repeat' first|simp only [il30l0_go,il30l0b,go_sem,hs,hlt]|(with_reducible first|apply wD|apply wT|(apply wM; intro)|(apply wL; intro))|((with_reducible first|refine wA ?_ ?_|refine wE ?_); rfl))
  all_goals (refine hk _ _ _ ⟨?_,rfl,?_⟩ <;> simp only [go_sem,hs,cpL_all])
 ·refine ⟨?_,?_⟩
  ·simp only [go_sem]
  ·simp only [cpL_zero,bsRow,dnRow,nwA]
 ·intro x e h ⟨h1,h2,h3⟩
  subst h2 h3
  have hq:=hQ w.bs.length (Nat.le_refl _)
  simp only [nwA] at hq ⊢
  (repeat' first|simp only [il30c,go_sem,h1,rgd,rg2,rs0,rg_drop]|(with_reducible first|apply wD|apply wT|(apply wM; intro)|(apply wL; intro))|((with_reducible first|refine wA ?_ ?_|refine wE ?_); rfl))
  exact hq
end Go.Proofs.Ytbibdnlbpjnieaa
namespace Go.Proofs.Ytbibdnlbpjnieaa
open Go Go.Abs
theorem bx_refF {o q i k:Nat} {h:Heap}:iBox false (.ref o q i k) h=some (.val (.ref h.length 1 0 0) (h++[.row 1 [.ref o q i k] 0])):=(fun x=>x) rfl
theorem bx_aggF {cs:List AV} {h:Heap}:iBox false (.agg cs) h=if storableAll cs && !cs.isEmpty then some (.val (.ref h.length 1 0 0) (h++[.row cs.length [.agg cs] 0])) else none:=(fun x=>x) rfl
attribute [go_sem] bx_refF bx_aggF allT_agg
def stS {σ:Type} (t:Tpo) (nx:σ→Nat→σ) (s:σ) (n:Nat):σ:=if stA t n=true then s else nx s n
section
variable {σ:Type} (hp:σ→Heap) (N:Nat) (hN:∀ s,(hp s).length=N) (nx:σ→Nat→σ) (dd nn o:Nat) (Iv:Nat→σ→Prop) (w:Nw)
 (hiv:∀ n s,n < w.bs.length→Iv n s→Iv (n+1) (stS w.t nx s n))
 (hfz:∀ (s:σ) (h:Heap) (q:Nat),N≤q→mapO (frzObj h (fromB q)) (hp s)=some (hp s)) (hoN:o < N)
include hN hiv hfz hoN
theorem all_iterT (f:Fl) (hst:(w.t.station.length:Int)=w.t.nodes) (hbl:(w.bs.length:Int)=w.t.nodes) (hb:w.bs.length≤100)
  (hy:∀ (s:σ) (n:Nat) (x:Bx) (Q:AV→Heap→Prop),w.bs[n]? = some x→stA w.t n=false→Iv n s→(∀ X',Q (.t (B true)) (hp (nx s n)++[.row 5 [.t (.agg (bxC x))] 1]++X'))→oB (inl Try.prog pol (ans Try.prog pol) nn dd (.yl o) [.t (I (n:Nat)),.t (.agg (bxC x))] (hp s++[.row 5 [.t (.agg (bxC x))] 1])) Q)
  (s:σ) (h0:Iv 0 s) (Q:AV→Heap→Prop) (hn:200 < nn) (hQ:∀ v,Q v (hp ((List.range w.bs.length).foldl (stS w.t nx) s))) :
  oB (inl Try.prog pol (ans Try.prog pol) nn (dd+1) (.fn 51) [.yl o,.t (.ip (nwC f w))] (hp s)) Q:=by
 refine oB_inl il51_eq (Nat.le_of_ble_eq_true rfl) ?_
 have g1:∀ (s:σ) (x:AObj) (Y:Heap),(hp s++(x::Y))[N]? = some x:=fun s x Y=>by rw [List.getElem?_append_right (by rw [hN]; omega),hN,Nat.sub_self]; rfl
 have g4:∀ (s:σ) (x y:AObj),(hp s++[x]).set N y=hp s++[y]:=fun s x y=>by
  show List.set (hp s++[x]:List AObj) N y=_
  rw [List.set_append]
  simp [hN]
 have g5:∀ (s:σ) (Y:Heap),(hp s++Y).take N=hp s:=fun s Y=>by rw [List.take_append,hN,List.take_of_length_le (by rw [hN]; omega)]; simp
 have g6:∀ (s:σ) (hx:Heap),mapO (frzObj hx (fromB N)) (hp s)=some (hp s):=fun s hx=>hfz s hx N (Nat.le_refl _)
 have hlen:∀ (s:σ) (Y:Heap),(hp s++Y).length=N+Y.length:=fun s Y=>by simp [hN]
 have f2:decide (N≤o)=false:=decide_eq_false (by omega)
 have f4:∀ k,N < N+(k+1):=fun k=>by omega
 have f5:N < N+1:=by omega
 (repeat' first|simp only [il51c,go_sem,hN]|(with_reducible first|apply wD|apply wT|(apply wM; intro)|(apply wL; intro))|((with_reducible first|refine wA ?_ ?_|refine wE ?_); rfl))
 refine loop_range w.bs encX (step:=fun n _ s=>.go (stS w.t nx s n)) (fin:=id)
  (St:=fun n s e h=>(e 0=.yl o∧e 1=.t (.ip (nwC f w))∧e 7=.t (.sl f.bs 5 (w.bs.map encX))∧e 8=.t (I (w.bs.length:Nat))∧e 9=.t (I (n:Nat)))∧h=hp s∧Iv n s)
  (Ex:=fun s x e h=>x=.exit 0∧h=hp s) (s:=s) (by omega) ?_ ?_ (by omega) ?_ ?_
 ·intro n x s e h Y R hm hi hx hget hlt hw ⟨hs,hh,hI⟩ hk
  subst hh
  simp only [ctlK_go] at hk
  have hI2:=hiv n s hi hI
  have g7:(w.t.station.map B)[n]? = some (B (stA w.t n)):=by simp [stA,show n < w.t.station.length by omega]
  have hcell:(T.agg (bxC x)).cells=bxC x:=rfl
  have h5:(bxC x).length=5:=by unfold bxC; split <;> rfl
  have h5t:(bxC x).take 5=bxC x:=List.take_of_length_le (by omega)
  have h5m:((bxC x).map AV.t).take 5=(bxC x).map AV.t:=List.take_of_length_le (by simp; omega)
  have hsto:storableAll ((bxC x).map .t)=true:=by unfold bxC; split <;> simp only [go_sem]
  have y1:=hy s n x
  simp only [encX] at hget
  simp only [stS] at hk hI2
  generalize bxC x=bc at *
  cases hst':stA w.t n with
  | true =>
   rw [hst'] at g7
   rw [if_pos hst'] at hk hI2
   (repeat' first|simp only [il51l0_go,il51l0b,go_sem,hs,hget,hlt,hw,hN,g1,g4,g5,g6,hlen,f2,f5,frz_yl,g7,hcell,h5,h5t,h5m,hsto]|(with_reducible first|apply wD|apply wT|(apply wM; intro)|(apply wL; intro))|((with_reducible first|refine wA ?_ ?_|refine wE ?_); rfl))
   all_goals (refine hk _ _ ⟨?_,rfl,hI2⟩; simp only [go_sem,hs,hw,f2,frz_yl])
  | false =>
   rw [hst'] at g7
   rw [if_neg (by rw [hst']; simp)] at hk hI2
   (repeat' first|simp only [il51l0_go,il51l0b,go_sem,hs,hget,hlt,hN,g1,g4,hlen,g7,hcell,h5,h5t,h5m,hsto]|(with_reducible first|apply wD|apply wT|(apply wM; intro)|(apply wL; intro))|((with_reducible first|refine wA ?_ ?_|refine wE ?_); rfl))
   refine y1 _ hx hst' hI ?_
   intro X'
   (repeat' first|simp only [il51l0_go,il51l0b,go_sem,hs,hw,List.append_assoc,g1,hlen,f2,f4,g5,g6,frz_yl]|(with_reducible first|apply wD|apply wT|(apply wM; intro)|(apply wL; intro))|((with_reducible first|refine wA ?_ ?_|refine wE ?_); rfl))
   all_goals (refine hk _ _ ⟨?_,rfl,hI2⟩; simp only [go_sem,hs,hw,f2,frz_yl])
 ·intro s e h Y R hlt ⟨hs,hh,_⟩ hk
  subst hh
  (repeat' first|simp only [il51l0_go,il51l0b,go_sem,hs,hlt]|(with_reducible first|apply wD|apply wT|(apply wM; intro)|(apply wL; intro))|((with_reducible first|refine wA ?_ ?_|refine wE ?_); rfl))
  all_goals (refine hk _ _ _ ?_; simp only [go_sem,id])
 ·refine ⟨?_,rfl,h0⟩
  simp only [go_sem]
 ·intro x e h ⟨h1,h2⟩
  subst h1
  have hf:∀ (l:List Bx) (i:Nat) (s:σ),foldC (ρ:=σ) (fun n _ s=>Ctl.go (stS w.t nx s n)) id i l s=(List.range' i l.length).foldl (stS w.t nx) s:=by
   intro l
   induction l with
   | nil=>intro i s; rfl
   | cons l ls ih =>
    intro i s
    rw [foldC_go (s':=stS w.t nx s i) rfl,ih,List.length_cons,List.range'_succ,List.foldl_cons]
  rw [hf,← List.range_eq_range'] at h2
  subst h2
  (repeat' first|simp only [il51c,go_sem]|(with_reducible first|apply wD|apply wT|(apply wM; intro)|(apply wL; intro))|((with_reducible first|refine wA ?_ ?_|refine wE ?_); rfl))
  exact hQ _
theorem all_iterR (oc d ob mc:Nat) (hoc:oc < N) (hmc:mc≤1) (hob:ob < N) (L:σ→List Bx) (mr:σ→Nat) (hL:∀ s,(L s).length=w.bs.length) (hmr:∀ s,mr s≤w.bs.length)
  (hcap:∀ s Y,(hp s++Y)[oc]? = some (.row 6 [.agg (nwA d ob w)] mc)) (hbr:∀ s Y,(hp s++Y)[ob]? = some (bsRow (L s) (mr s))) (hst:(w.t.station.length:Int)=w.t.nodes) (hbl:(w.bs.length:Int)=w.t.nodes) (hb:w.bs.length≤100)
  (hy:∀ (s:σ) (n:Nat) (x:Bx) (Q:AV→Heap→Prop),(L s)[n]? = some x→stA w.t n=false→Iv n s→(∀ X',Q (.t (B true)) (hp (nx s n)++[.row 5 [.t (.agg (bxC x))] 1]++X'))→oB (inl Try.prog pol (ans Try.prog pol) nn dd (.yl o) [.t (I (n:Nat)),.t (.agg (bxC x))] (hp s++[.row 5 [.t (.agg (bxC x))] 1])) Q)
  (s:σ) (h0:Iv 0 s) (Q:AV→Heap→Prop) (hn:200 < nn) (hQ:∀ v,Q v (hp ((List.range w.bs.length).foldl (stS w.t nx) s))) :
  oB (inl Try.prog pol (ans Try.prog pol) nn (dd+1) (.fn 51) [.yl o,.ref oc 1 0 0] (hp s)) Q:=by
 refine oB_inl il51_eq (Nat.le_of_ble_eq_true rfl) ?_
 have g1:∀ (s:σ) (x:AObj) (Y:Heap),(hp s++(x::Y))[N]? = some x:=fun s x Y=>by rw [List.getElem?_append_right (by rw [hN]; omega),hN,Nat.sub_self]; rfl
 have g4:∀ (s:σ) (x y:AObj),(hp s++[x]).set N y=hp s++[y]:=fun s x y=>by
  show List.set (hp s++[x]:List AObj) N y=_
  rw [List.set_append]
  simp [hN]
 have g5:∀ (s:σ) (Y:Heap),(hp s++Y).take N=hp s:=fun s Y=>by rw [List.take_append,hN,List.take_of_length_le (by rw [hN]; omega)]; simp
 have g6:∀ (s:σ) (hx:Heap),mapO (frzObj hx (fromB N)) (hp s)=some (hp s):=fun s hx=>hfz s hx N (Nat.le_refl _)
 have hlen:∀ (s:σ) (Y:Heap),(hp s++Y).length=N+Y.length:=fun s Y=>by simp [hN]
 have f2:decide (N≤o)=false:=decide_eq_false (by omega)
 have f4:∀ k,N < N+(k+1):=fun k=>by omega
 have f5:N < N+1:=by omega
 have hcap0:∀ s,(hp s)[oc]? = some (.row 6 [.agg (nwA d ob w)] mc):=fun s=>by have:=hcap s []; rwa [List.append_nil] at this
 have hbr0:∀ s,(hp s)[ob]? = some (bsRow (L s) (mr s)):=fun s=>by have:=hbr s []; rwa [List.append_nil] at this
 have fo:decide (N≤oc)=false:=decide_eq_false (by omega)
 have fb:decide (N≤ob)=false:=decide_eq_false (by omega)
 simp only [nwA,bsRow] at hcap hbr hcap0 hbr0
 (repeat' first|simp only [il51c,go_sem,hN,hcap0,hmc]|(with_reducible first|apply wD|apply wT|(apply wM; intro)|(apply wL; intro))|((with_reducible first|refine wA ?_ ?_|refine wE ?_); rfl))
 refine loop_range (List.replicate w.bs.length ()) (fun _=>I 0) (step:=fun n _ s=>.go (stS w.t nx s n)) (fin:=id)
  (St:=fun n s e h=>(e 0=.yl o∧e 1=.ref oc 1 0 0∧e 7=.ms ob w.bs.length 0 w.bs.length 5 true∧e 8=.t (I (w.bs.length:Nat))∧e 9=.t (I (n:Nat)))∧h=hp s∧Iv n s)
  (Ex:=fun s x e h=>x=.exit 0∧h=hp s) (s:=s) (by simp; omega) ?_ ?_ (by simp; omega) ?_ ?_
 ·intro n _ s e h Y R hm hi _ _ hlt hw ⟨hs,hh,hI⟩ hk
  subst hh
  simp only [List.length_replicate] at hi hlt
  obtain ⟨x,hx⟩:∃ x,(L s)[n]? = some x:=⟨(L s)[n]'(by rw [hL]; exact hi),by simp [hL,hi]⟩
  have hget:(((L s).map encX).map AV.t)[n]? = some (.t (encX x)):=map_get (enc:=encX) hx
  have hLl:=hL s
  have hmrs:=hmr s
  simp only [ctlK_go] at hk
  have hI2:=hiv n s hi hI
  have g7:(w.t.station.map B)[n]? = some (B (stA w.t n)):=by simp [stA,show n < w.t.station.length by omega]
  have hcell:(T.agg (bxC x)).cells=bxC x:=rfl
  have h5:(bxC x).length=5:=by unfold bxC; split <;> rfl
  have h5t:(bxC x).take 5=bxC x:=List.take_of_length_le (by omega)
  have h5m:((bxC x).map AV.t).take 5=(bxC x).map AV.t:=List.take_of_length_le (by simp; omega)
  have hsto:storableAll ((bxC x).map .t)=true:=by unfold bxC; split <;> simp only [go_sem]
  have y1:=hy s n x
  simp only [encX] at hget
  simp only [stS] at hk hI2
  generalize bxC x=bc at *
  cases hst':stA w.t n with
  | true =>
   rw [hst'] at g7
   rw [if_pos hst'] at hk hI2
   (repeat' first|simp only [il51l0_go,il51l0b,go_sem,hs,hget,hlt,hw,hN,hcap,hbr,hcap0,hbr0,hmc,hi,hLl,hmrs,fo,fb,g1,g4,g5,g6,hlen,f2,f5,frz_yl,g7,hcell,h5,h5t,h5m,hsto]|(with_reducible first|apply wD|apply wT|(apply wM; intro)|(apply wL; intro))|((with_reducible first|refine wA ?_ ?_|refine wE ?_); rfl))
   all_goals (refine hk _ _ ⟨?_,rfl,hI2⟩; simp only [go_sem,hs,hw,f2,fo,fb,frz_yl])
  | false =>
   rw [hst'] at g7
   rw [if_neg (by rw [hst']; simp)] at hk hI2
   (repeat' first|simp only [il51l0_go,il51l0b,go_sem,hs,hget,hlt,hN,hcap,hbr,hcap0,hbr0,hmc,hi,hLl,hmrs,g1,g4,hlen,g7,hcell,h5,h5t,h5m,hsto]|(with_reducible first|apply wD|apply wT|(apply wM; intro)|(apply wL; intro))|((with_reducible first|refine wA ?_ ?_|refine wE ?_); rfl))
   refine y1 _ hx hst' hI ?_
   intro X'
   (repeat' first|simp only [il51l0_go,il51l0b,go_sem,hs,hw,List.append_assoc,g1,hlen,fo,fb,f2,f4,g5,g6,frz_yl]|(with_reducible first|apply wD|apply wT|(apply wM; intro)|(apply wL; intro))|((with_reducible first|refine wA ?_ ?_|refine wE ?_); rfl))
   all_goals (refine hk _ _ ⟨?_,rfl,hI2⟩; simp only [go_sem,hs,hw,f2,fo,fb,frz_yl])
 ·intro s e h Y R hlt ⟨hs,hh,_⟩ hk
  subst hh
  simp only [List.length_replicate] at hlt hs
  (repeat' first|simp only [il51l0_go,il51l0b,go_sem,hs,hlt]|(with_reducible first|apply wD|apply wT|(apply wM; intro)|(apply wL; intro))|((with_reducible first|refine wA ?_ ?_|refine wE ?_); rfl))
  all_goals (refine hk _ _ _ ?_; simp only [go_sem,id])
 ·refine ⟨?_,rfl,h0⟩
  simp only [go_sem]
 ·intro x e h ⟨h1,h2⟩
  subst h1
  have hf:∀ (l:List Unit) (i:Nat) (s:σ),foldC (ρ:=σ) (fun n _ s=>Ctl.go (stS w.t nx s n)) id i l s=(List.range' i l.length).foldl (stS w.t nx) s:=by
   intro l
   induction l with
   | nil=>intro i s; rfl
   | cons l ls ih =>
    intro i s
    rw [foldC_go (s':=stS w.t nx s i) rfl,ih,List.length_cons,List.range'_succ,List.foldl_cons]
  rw [hf,List.length_replicate,← List.range_eq_range'] at h2
  subst h2
  (repeat' first|simp only [il51c,go_sem]|(with_reducible first|apply wD|apply wT|(apply wM; intro)|(apply wL; intro))|((with_reducible first|refine wA ?_ ?_|refine wE ?_); rfl))
  exact hQ _
end
end Go.Proofs.Ytbibdnlbpjnieaa
namespace Go.Proofs.Ytbibdnlbpjnieaa
open Go Go.Abs
structure Dr where
 br:Int
 st:Int
 chords:List Int
 homes:List Int
 pers:List Int
 delays:List Int
abbrev drC (c1 c2 c3 c4:Bool) (d:Dr):List T:=[U8 d.br,U8 d.st,.sl c1 1 (d.chords.map U8),.sl c2 1 (d.homes.map U8),.sl c3 1 (d.pers.map U8),.sl c4 1 (d.delays.map U8)]
abbrev drT (c1 c2 c3 c4:Bool) (d:Dr):T:=.agg (drC c1 c2 c3 c4 d)
structure drP (d:Dr):Prop where
 br:0≤d.br∧d.br < 256
 st:0≤d.st∧d.st < 256
 chords:u8P d.chords
 homes:u8P d.homes
 pers:u8P d.pers
 delays:u8P d.delays
def mkK (d:Dr) (n:Nat) (a b:Int):Lk:=⟨a,b,1+pkL d.pers n % 20,pkL d.delays n % 50⟩
def jnL (L:List Lk) (a b:Int):Bool:=L.any (fun l=>decide (l.a=a∧l.b=b∨l.a=b∧l.b=a))
def wth (d:Dr) (N:Int) (st:List Bool) (L:List Lk) (a b:Int):List Lk :=
 if L.length=24∨lkR ⟨N,st,L⟩ (mkK d L.length a b)=false then L else if jnL L a b=true then L else L++[mkK d L.length a b]
theorem wth_24 {d:Dr} {N:Int} {st:List Bool} {L:List Lk} {a b:Int} (h:L.length≤24):(wth d N st L a b).length≤24:=by
 unfold wth
 split
 ·exact h
 ·rename_i h1
  split
  ·exact h
  ·have:L.length≠24:=fun h=>h1 (.inl h)
   simp; omega
abbrev zT3:T:=.agg [I 0,.sc (.slice none 0 0),.sc (.slice none 0 0)]
abbrev tpA (N:Int) (s q:Nat):List AV:=[.t (I N),.ms 1 s 0 s 1 false,.ms 2 q 0 q 4 false]
def hpT (N:Int) (st:List Bool) (L:List Lk) (s q mr:Nat):Heap:=[.row 3 [.t zT3] 0,.row 1 ((st.map B).map .t) 0,.row 4 ((L.map encK).map .t) 0,.row 3 [.agg (tpA N s q)] mr]
def zzT (N:Int) (s q5 m5 q8:Nat) (l:Lk):Heap:=[.row 3 [.agg (tpA N s q5)] m5,.row 3 [.agg (tpA N s q8)] 1,.row 4 [.t (lkT l)] 1]
theorem frz_rowG' {α:Type} {k:Nat} {enc:α→T} {l:List α} {h:Heap} {p:Nat→Bool}:frzObj h p (rowG k enc l)=some (rowG k enc l):=by
 rw [rowG_eq]
 simp only [frzObj,av_map,if_true]
theorem with_inl (c1 c2 c3 c4:Bool) (d:Dr) (hd:drP d) (N:Int) (st:List Bool) (L:List Lk) (hst:(st.length:Int)=N) (hL:L.length≤24) (hN:N≤12) (mr:Nat) (hmr:mr≤1) (a b:Int) (dd nn:Nat) (hn:100 < nn) (Q:AV→Heap→Prop)
  (hQ:∀ q5 m5 q8 l,m5≤1→Q (.agg (tpA N st.length (wth d N st L a b).length)) (hpT N st (wth d N st L a b) st.length L.length mr++zzT N st.length q5 m5 q8 l)) :
  oB (inl Try.prog pol (ans Try.prog pol) nn (dd+1) (.fn 42) [.t (drT c1 c2 c3 c4 d),.agg (tpA N st.length L.length),.t (I a),.t (I b)] (hpT N st L st.length L.length mr)) Q:=by
 have k1:=pick_ans c3 d.pers L.length hd.pers
 have k2:=pick_ans c4 d.delays L.length hd.delays
 have b1:=pkL_bd hd.pers L.length
 have b2:=pkL_bd hd.delays L.length
 have t1:(pkL d.pers L.length).tmod 20=pkL d.pers L.length % 20:=Int.tmod_eq_emod_of_nonneg b1.1
 have t2:(pkL d.delays L.length).tmod 50=pkL d.delays L.length % 50:=Int.tmod_eq_emod_of_nonneg b2.1
 have v1:IntKind.i64.wrap (pkL d.pers L.length % 20)=pkL d.pers L.length % 20:=wrap_i64 (by omega) (by omega)
 have v2:IntKind.i64.wrap (pkL d.delays L.length % 50)=pkL d.delays L.length % 50:=wrap_i64 (by omega) (by omega)
 have v3:IntKind.i64.wrap (1+pkL d.pers L.length % 20)=1+pkL d.pers L.length % 20:=wrap_i64 (by omega) (by omega)
 have k3:=link_ans false false ⟨N,st,L⟩ (mkK d L.length a b) hst
 simp only [mkK] at k3
 have hl1:((st.map B).map AV.t).length=st.length:=by simp
 have hl2:((L.map encK).map AV.t).length=L.length:=by simp
 have hw:wth d N st L a b=if L.length=24∨lkR ⟨N,st,L⟩ (mkK d L.length a b)=false then L else if jnL L a b=true then L else L++[mkK d L.length a b]:=rfl
 have hroom:(L.length+1)*32≤roomB:=ap_room (by omega) (by omega)
 by_cases h24:L.length=24
 ·have d1:decide ((L.length:Int)=24)=true:=decide_eq_true (by omega)
  rw [hw,if_pos (.inl h24)] at hQ
  simp only [hpT,zzT] at hQ ⊢
  with_reducible refine oB_inl il42_eq ?_ ?_
  ·exact Nat.le_of_ble_eq_true rfl
  (repeat' first|simp only [il42c,go_sem,k1,k2,t1,t2,v1,v2,v3,d1,hmr,hl1,hl2]|(with_reducible first|apply wD|apply wT|(apply wM; intro)|(apply wL; intro))|((with_reducible first|refine wA ?_ ?_|refine wE ?_); rfl))
  all_goals exact hQ _ _ _ (mkK d L.length a b) (by omega)
 have d1:decide ((L.length:Int)=24)=false:=decide_eq_false (by omega)
 cases hlr:lkR ⟨N,st,L⟩ (mkK d L.length a b) with
 | false =>
  rw [hw,if_pos (.inr hlr)] at hQ
  simp only [mkK] at hlr
  rw [hlr] at k3
  simp only [hpT,zzT] at hQ ⊢
  with_reducible refine oB_inl il42_eq ?_ ?_
  ·exact Nat.le_of_ble_eq_true rfl
  (repeat' first|simp only [il42c,go_sem,k1,k2,t1,t2,v1,v2,v3,k3,d1,hmr,hl1,hl2]|(with_reducible first|apply wD|apply wT|(apply wM; intro)|(apply wL; intro))|((with_reducible first|refine wA ?_ ?_|refine wE ?_); rfl))
  all_goals exact hQ _ _ _ (mkK d L.length a b) (by omega)
 | true =>
  rw [hw,if_neg (by rintro (h|h); exact h24 h; rw [hlr] at h; cases h)] at hQ
  have hlr':=hlr
  simp only [mkK] at hlr'
  rw [hlr'] at k3
  have hpush:((L.map encK).map AV.t)++[.t (lkT (mkK d L.length a b))]=(((L++[mkK d L.length a b]).map encK).map AV.t):=by simp [encK]
  simp only [mkK] at hpush
  simp only [hpT,zzT] at hQ ⊢
  with_reducible refine oB_inl il42_eq ?_ ?_
  ·exact Nat.le_of_ble_eq_true rfl
  (repeat' first|simp only [il42c,go_sem,k1,k2,t1,t2,v1,v2,v3,k3,d1,hmr,hl1,hl2]|(with_reducible first|apply wD|apply wT|(apply wM; intro)|(apply wL; intro))|((with_reducible first|refine wA ?_ ?_|refine wE ?_); rfl))
  refine loop_range L encK (step:=fun i x (_:Unit)=>if (decide (x.a=a∧x.b=b∨x.a=b∧x.b=a))=true then Ctl.out true else Ctl.go ()) (fin:=fun _=>false)
   (St:=fun i _ e h=>(e 2=.t (I a)∧e 3=.t (I b)∧e 5=.ref 4 1 0 0∧e 8=.ref 5 1 0 0∧e 9=.t (I (L.length:Nat))∧e 10=.ref 6 1 0 0∧e 11=.t (I (i:Nat)))∧h=[.row 3 [.t zT3] 0,.row 1 ((st.map B).map .t) 0,.row 4 ((L.map encK).map .t) 0,.row 3 [.agg (tpA N st.length L.length)] mr,.row 3 [.agg (tpA N st.length L.length)] 0,.row 3 [.t zT3] 0,.row 4 [.t (lkT (mkK d L.length a b))] 1])
   (Ex:=fun r x e h=>(e 8=.ref 5 1 0 0∧(r=false→e 5=.ref 4 1 0 0∧e 10=.ref 6 1 0 0))∧(r=true∧x=.ret∧h=[.row 3 [.t zT3] 0,.row 1 ((st.map B).map .t) 0,.row 4 ((L.map encK).map .t) 0,.row 3 [.agg (tpA N st.length L.length)] mr,.row 3 [.agg (tpA N st.length L.length)] 0,.row 3 [.agg (tpA N st.length L.length)] 1,.row 4 [.t (lkT (mkK d L.length a b))] 1]∨r=false∧x=.exit 0∧h=[.row 3 [.t zT3] 0,.row 1 ((st.map B).map .t) 0,.row 4 ((L.map encK).map .t) 0,.row 3 [.agg (tpA N st.length L.length)] mr,.row 3 [.agg (tpA N st.length L.length)] 0,.row 3 [.t zT3] 0,.row 4 [.t (lkT (mkK d L.length a b))] 1])) (s:=()) (by omega) ?_ ?_ (by omega) ?_ ?_
  ·intro i x _ e h Y R' hm hi hx hget hlt hw' ⟨hs,hh⟩ hk
   subst hh
   have k4:=joins_ans x a b
   have gx:((L.map encK).map AV.t)[i]? = some (.t (lkT x)):=map_get (enc:=encK) hx
   by_cases hj:(x.a=a∧x.b=b∨x.a=b∧x.b=a)
   ·have dj:=decide_eq_true hj
    rw [dj] at k4
    rw [if_pos dj,ctlK_out] at hk
    simp only [mkK] at hk ⊢
    (repeat' first|simp only [il42l0_go,il42l0b,go_sem,hs,hlt,gx,hl2,k4,hi,hmr]|(with_reducible first|apply wD|apply wT|(apply wM; intro)|(apply wL; intro))|((with_reducible first|refine wA ?_ ?_|refine wE ?_); rfl))
    all_goals (refine hk _ _ _ ⟨⟨?_,by simp⟩,.inl ⟨by simp,rfl,rfl⟩⟩; simp only [go_sem,hs])
   ·have dj:=decide_eq_false hj
    rw [dj] at k4
    rw [if_neg (by rw [dj]; simp),ctlK_go] at hk
    simp only [mkK] at hk ⊢
    (repeat' first|simp only [il42l0_go,il42l0b,go_sem,hs,hlt,hw',gx,hl2,k4,hi,hmr]|(with_reducible first|apply wD|apply wT|(apply wM; intro)|(apply wL; intro))|((with_reducible first|refine wA ?_ ?_|refine wE ?_); rfl))
    all_goals (refine hk _ _ ⟨?_,rfl⟩; simp only [go_sem,hs,hw'])
  ·intro _ e h Y R' hlt ⟨hs,hh⟩ hk
   subst hh
   simp only [mkK] at hk ⊢
   (repeat' first|simp only [il42l0_go,il42l0b,go_sem,hs,hlt]|(with_reducible first|apply wD|apply wT|(apply wM; intro)|(apply wL; intro))|((with_reducible first|refine wA ?_ ?_|refine wE ?_); rfl))
   all_goals (refine hk _ _ _ ⟨⟨?_,fun _=>?_⟩,.inr ⟨by simp,rfl,rfl⟩⟩ <;> simp only [go_sem,hs,and_self])
  ·refine ⟨?_,rfl⟩
   simp only [go_sem]
  ·intro x e h ⟨⟨h8,h5⟩,hx⟩
   have hfold:∀ (l:List Lk) (k:Nat),foldC (fun i (x:Lk) (_:Unit)=>if (decide (x.a=a∧x.b=b∨x.a=b∧x.b=a))=true then Ctl.out true else Ctl.go ()) (fun _=>false) k l ()=jnL l a b:=by
    intro l
    induction l with
    | nil=>intro k; rfl
    | cons y l ih =>
     intro k
     by_cases hy:(decide (y.a=a∧y.b=b∨y.a=b∧y.b=a))=true
     ·rw [foldC_out (r:=true) (if_pos hy)]
      simp only [jnL,List.any_cons,hy,Bool.true_or]
     ·rw [foldC_go (s':=()) (if_neg hy),ih]
      have hy':(decide (y.a=a∧y.b=b∨y.a=b∧y.b=a))=false:=by simpa using hy
      simp only [jnL,List.any_cons,hy',Bool.false_or]
   rw [hfold] at hx h5
   rcases hx with ⟨hb,rfl,rfl⟩|⟨hb,rfl,rfl⟩
   ·rw [hb,if_pos rfl] at hQ
    (repeat' first|simp only [il42c,go_sem,h8]|(with_reducible first|apply wD|apply wT|(apply wM; intro)|(apply wL; intro))|((with_reducible first|refine wA ?_ ?_|refine wE ?_); rfl))
    all_goals exact hQ _ _ _ (mkK d L.length a b) (by omega)
   ·rw [hb,if_neg (by simp)] at hQ
    obtain ⟨h5,h10⟩:=h5 hb
    simp only [List.length_append,List.length_cons,List.length_nil,mkK] at hQ
    rw [← hpush] at hQ
    (repeat' first|simp only [il42c,go_sem,h8,h5,h10,hl2,hroom,hmr]|(with_reducible first|apply wD|apply wT|(apply wM; intro)|(apply wL; intro))|((with_reducible first|refine wA ?_ ?_|refine wE ?_); rfl))
    all_goals exact hQ _ _ _ (mkK d L.length a b) (by omega)
end Go.Proofs.Ytbibdnlbpjnieaa
namespace Go.Proofs.Ytbibdnlbpjnieaa
open Go Go.Abs
section
variable (d:Dr)
def brN:Nat:=(1+d.br % 6).toNat
def stN:Nat:=(2+d.st % 5).toNat
def dSt:List Bool:=(List.range (brN d+stN d)).map (fun n=>decide (brN d≤n))
def wD (L:List Lk) (a b:Int):List Lk:=wth d ((brN d+stN d:Nat):Int) (dSt d) L a b
def dL1:List Lk:=(List.range (brN d - 1)).foldl (fun L i=>wD d L (i:Nat) ((i+1:Nat):Int)) []
def dL2:List Lk:=(List.range (stN d)).foldl (fun L s=>wD d L ((brN d+s:Nat):Int) (pkL d.homes (2*s) % (brN d:Nat))) (dL1 d)
def dL3:List Lk:=if 2 < brN d∧d.br % 2=0 then wD d (dL2 d) ((brN d - 1:Nat):Int) 0 else dL2 d
def dL4:List Lk:=(List.range (stN d)).foldl (fun L s=>if 0 < pkL d.homes (2*s+1) % 3 then wD d L ((brN d+s:Nat):Int) (pkL d.homes (2*s+1) % (brN d:Nat)) else L) (dL3 d)
def dL5:List Lk:=(List.range (min 6 (d.chords.length / 2))).foldl (fun L i=>wD d L (pkL d.chords (2*i) % (brN d:Nat)) (pkL d.chords (2*i+1) % (brN d:Nat))) (dL4 d)
def dTopo:Tpo:=⟨((brN d+stN d:Nat):Int),dSt d,dL5 d⟩
end
theorem frz_mapS {α:Type} {enc:α→T} {k mr:Nat} {l:List α} {h:Heap} {p:Nat→Bool}:frzObj h p (.row k ((l.map enc).map .t) mr)=some (.row k ((l.map enc).map .t) mr):=by simp only [frzObj,av_map,if_true]
theorem wD_24 {d:Dr} {L:List Lk} {a b:Int} (h:L.length≤24):(wD d L a b).length≤24:=wth_24 h
theorem foldl_24 {α:Type} {f:List Lk→α→List Lk} (hf:∀ L a,L.length≤24→(f L a).length≤24):∀ (l:List α) (L:List Lk),L.length≤24→(l.foldl f L).length≤24:=by
 intro l
 induction l with
 | nil=>intro L h; exact h
 | cons a l ih=>intro L h; exact ih _ (hf _ _ h)
theorem dSt_len (d:Dr):(dSt d).length=brN d+stN d:=by simp [dSt]
theorem brN_bd {d:Dr} (h:drP d):1≤brN d∧brN d≤6∧((brN d:Nat):Int)=1+d.br % 6:=by
 have:=h.br
 unfold brN; omega
theorem stN_bd {d:Dr} (h:drP d):2≤stN d∧stN d≤6∧((stN d:Nat):Int)=2+d.st % 5:=by
 have:=h.st
 unfold stN; omega
theorem foldC_pure {σ:Type} (f:Nat→σ→σ):∀ (k i:Nat) (s:σ),foldC (ρ:=σ) (fun i (_:Unit) s=>Ctl.go (f i s)) id i (List.replicate k ()) s=(List.range' i k).foldl (fun s i=>f i s) s:=by
 intro k
 induction k with
 | zero=>intro i s; rfl
 | succ k ih=>intro i s; rw [List.replicate_succ,foldC_go (s':=f i s) rfl,ih,List.range'_succ,List.foldl_cons]
section
variable (c1 c2 c3 c4:Bool) (d:Dr) (hd:drP d)
abbrev eD (c1 c2 c3 c4:Bool) (d:Dr) (e:FEnv):Prop:=e 1=.t (.ip (drC c1 c2 c3 c4 d))∧e 2=.ref 0 1 0 0∧e 3=.t (I (brN d:Nat))∧e 5=.ref 3 1 0 0
include hd
theorem topo_l0 (dd nn:Nat) (hn:100 < nn) (R:Xit→FEnv→Heap→Prop) (e:FEnv) (he:eD c1 c2 c3 c4 d e∧e 4=.t (I (stN d:Nat))∧e 6=.t (I 0))
  (hR:∀ e,eD c1 c2 c3 c4 d e∧e 4=.t (I (stN d:Nat))→R (.exit 0) e (hpT ((brN d+stN d:Nat):Int) (dSt d) [] (dSt d).length 0 1)) :
  wpIter 4 (some [1,2,3,4,5,6]) (wc Try.prog pol (ans Try.prog pol) (inl Try.prog pol (ans Try.prog pol) nn dd) nn 22 il22l0) R nn e (hpT ((brN d+stN d:Nat):Int) [] [] 0 0 1):=by
 obtain ⟨b1,b2,b3⟩:=brN_bd hd
 obtain ⟨s1,s2,s3⟩:=stN_bd hd
 refine loop_upto (brN d+stN d) (step:=fun i (st:List Bool)=>.go (st++[decide (brN d≤i)])) (fin:=id)
  (St:=fun i st e h=>(eD c1 c2 c3 c4 d e∧e 4=.t (I (stN d:Nat))∧e 6=.t (I (i:Nat)))∧st.length=i∧h=hpT ((brN d+stN d:Nat):Int) st [] st.length 0 1)
  (Ex:=fun st x e h=>(eD c1 c2 c3 c4 d e∧e 4=.t (I (stN d:Nat)))∧x=.exit 0∧h=hpT ((brN d+stN d:Nat):Int) st [] st.length 0 1) (s:=[]) (by omega) ?_ ?_ (by omega) ?_ ?_
 ·intro i st e h Y R hi hlt hw ⟨⟨⟨e1,e2,e3,e5⟩,e4,e6⟩,hl,hh⟩ hk
  subst hh
  simp only [ctlK_go] at hk
  have hroom:(st.length+1)*1≤roomB:=ap_room (by omega) (by omega)
  have hl1:((st.map B).map AV.t).length=st.length:=by simp
  have hpush:((st.map B).map AV.t)++[.t (B (decide (brN d≤i)))]=(((st++[decide (brN d≤i)]).map B).map AV.t):=by simp
  have hd1:decide (((brN d:Nat):Int)≤(i:Nat))=decide (brN d≤i):=by congr 1; simp
  simp only [hpT] at hk ⊢
  rw [← hpush] at hk
  simp only [List.length_append,List.length_cons,List.length_nil] at hk
  (repeat' first|simp only [il22l0_go,il22l0b,go_sem,e1,e2,e3,e4,e5,e6,hlt,hw,hd1,hl1,hroom]|(with_reducible first|apply wD|apply wT|(apply wM; intro)|(apply wL; intro))|((with_reducible first|refine wA ?_ ?_|refine wE ?_); rfl))
  all_goals (refine hk _ _ ⟨?_,by omega,?_⟩ <;> simp only [go_sem,eD,e1,e2,e3,e4,e5,e6,hw])
 ·intro st e h Y R hlt ⟨⟨⟨e1,e2,e3,e5⟩,e4,e6⟩,hl,hh⟩ hk
  subst hh
  simp only [hpT] at hk ⊢
  (repeat' first|simp only [il22l0_go,il22l0b,go_sem,e1,e2,e3,e4,e5,e6,hlt]|(with_reducible first|apply wD|apply wT|(apply wM; intro)|(apply wL; intro))|((with_reducible first|refine wA ?_ ?_|refine wE ?_); rfl))
  all_goals (refine hk _ _ _ ⟨?_,rfl,rfl⟩; simp only [go_sem,eD,e1,e2,e3,e4,e5,e6])
 ·exact ⟨he,rfl,rfl⟩
 ·intro x e h ⟨h1,h2,h3⟩
  have hf:∀ (k i:Nat) (o:List Bool),foldC (ρ:=List Bool) (fun i (_:Unit) o=>Ctl.go (o++[decide (brN d≤i)])) id i (List.replicate k ()) o=o++(List.range' i k).map (fun n=>decide (brN d≤n)):=by
   intro k
   induction k with
   | zero=>intro i o; simp [foldC]
   | succ k ih=>intro i o; rw [List.replicate_succ,foldC_go (s':=o++[decide (brN d≤i)]) rfl,ih,List.range'_succ]; simp
  rw [hf,List.nil_append,← List.range_eq_range'] at h3
  subst h2 h3
  exact hR _ h1
theorem topo_l1 (dd nn:Nat) (hn:100 < nn) (R:Xit→FEnv→Heap→Prop) (e:FEnv) (he:eD c1 c2 c3 c4 d e∧e 4=.t (I (stN d:Nat))∧e 7=.t (I 1))
  (hR:∀ e,eD c1 c2 c3 c4 d e∧e 4=.t (I (stN d:Nat))→R (.exit 2) e (hpT ((brN d+stN d:Nat):Int) (dSt d) (dL1 d) (dSt d).length (dL1 d).length 1)) :
  wpIter 4 (some [1,2,3,4,5,7]) (wc Try.prog pol (ans Try.prog pol) (inl Try.prog pol (ans Try.prog pol) nn (dd+1)) nn 22 il22l1) R nn e (hpT ((brN d+stN d:Nat):Int) (dSt d) [] (dSt d).length 0 1):=by
 obtain ⟨b1,b2,b3⟩:=brN_bd hd
 obtain ⟨s1,s2,s3⟩:=stN_bd hd
 have hst:((dSt d).length:Int)=((brN d+stN d:Nat):Int):=by rw [dSt_len]
 refine loop_upto (brN d - 1) (step:=fun i (L:List Lk)=>.go (wD d L (i:Nat) ((i+1:Nat):Int))) (fin:=id)
  (St:=fun i L e h=>(eD c1 c2 c3 c4 d e∧e 4=.t (I (stN d:Nat))∧e 7=.t (I ((i+1:Nat):Int)))∧L.length≤24∧h=hpT ((brN d+stN d:Nat):Int) (dSt d) L (dSt d).length L.length 1)
  (Ex:=fun L x e h=>(eD c1 c2 c3 c4 d e∧e 4=.t (I (stN d:Nat)))∧x=.exit 2∧h=hpT ((brN d+stN d:Nat):Int) (dSt d) L (dSt d).length L.length 1) (s:=[]) (by omega) ?_ ?_ (by omega) ?_ ?_
 ·intro i L e h Y R hi _ _ ⟨⟨⟨e1,e2,e3,e5⟩,e4,e7⟩,hl,hh⟩ hk
  subst hh
  simp only [ctlK_go] at hk
  have hlt:decide (((i+1:Nat):Int) < (brN d:Nat))=true:=decide_eq_true (by omega)
  have v1:IntKind.i64.wrap (((i+1:Nat):Int) - 1)=(i:Nat):=by rw [wrap_i64 (by omega) (by omega)]; omega
  have v2:IntKind.i64.wrap (((i+1:Nat):Int)+1)=((i+1+1:Nat):Int):=by rw [wrap_i64 (by omega) (by omega)]; omega
  have hcall:=@with_inl c1 c2 c3 c4 d hd ((brN d+stN d:Nat):Int) (dSt d) L hst hl (by omega) 1 (Nat.le_refl _) (i:Nat) ((i+1:Nat):Int) dd nn hn
  have hk2:=hk
  have hl2:(wD d L (i:Nat) ((i+1:Nat):Int)).length≤24:=wD_24 hl
  change ∀ Q:AV→Heap→Prop,(∀ q5 m5 q8 l,m5≤1→Q (.agg (tpA _ (dSt d).length (wD d L (i:Nat) ((i+1:Nat):Int)).length)) (hpT _ (dSt d) (wD d L (i:Nat) ((i+1:Nat):Int)) (dSt d).length L.length 1++zzT _ (dSt d).length q5 m5 q8 l))→_ at hcall
  generalize wD d L (i:Nat) ((i+1:Nat):Int)=L2 at *
  simp only [hpT,zzT,drT,List.cons_append,List.nil_append] at hcall hk ⊢
  (repeat' first|simp only [il22l1_go,il22l1b,go_sem,e1,e2,e3,e4,e5,e7,hlt,v1,v2]|(with_reducible first|apply wD|apply wT|(apply wM; intro)|(apply wL; intro))|((with_reducible first|refine wA ?_ ?_|refine wE ?_); rfl))
  with_reducible refine hcall _ ?_
  intro q5 m5 q8 l hm5
  (repeat' first|simp only [List.cons_append,List.nil_append,go_sem,e1,e2,e3,e4,e5,e7,v2,frz_mapS]|(with_reducible first|apply wD|apply wT|(apply wM; intro)|(apply wL; intro))|((with_reducible first|refine wA ?_ ?_|refine wE ?_); rfl))
  all_goals (refine hk _ _ ⟨?_,hl2,?_⟩ <;> simp only [go_sem,eD,e1,e2,e3,e4,e5,e7,v2])
 ·intro L e h Y R _ ⟨⟨⟨e1,e2,e3,e5⟩,e4,e7⟩,hl,hh⟩ hk
  subst hh
  have hlt:decide (((brN d - 1+1:Nat):Int) < (brN d:Nat))=false:=decide_eq_false (by omega)
  simp only [hpT] at hk ⊢
  (repeat' first|simp only [il22l1_go,il22l1b,go_sem,e1,e2,e3,e4,e5,e7,hlt]|(with_reducible first|apply wD|apply wT|(apply wM; intro)|(apply wL; intro))|((with_reducible first|refine wA ?_ ?_|refine wE ?_); rfl))
  all_goals (refine hk _ _ _ ⟨?_,rfl,rfl⟩; simp only [go_sem,eD,e1,e2,e3,e4,e5,e7])
 ·exact ⟨he,Nat.zero_le _,rfl⟩
 ·intro x e h ⟨h1,h2,h3⟩
  rw [foldC_pure (fun i L=>wD d L (i:Nat) ((i+1:Nat):Int)),← List.range_eq_range'] at h3
  subst h2 h3
  exact hR _ h1
end
end Go.Proofs.Ytbibdnlbpjnieaa
