/- Part 21 of the proof of TreeNews. -/
import Derived.Test.YtbibdnlbpjnieaaGreatN20
set_option linter.all false
set_option maxRecDepth 100000
set_option maxHeartbeats 4000000
namespace Go.Proofs.YtbibdnlbpjnieaaGreat
open Go Go.Abs
theorem tsame_l0 (n:Int) (S1 S2 S1' S2':T) (a:List Bool) (hl:a.length≤1000) (ra:SlR S1 1 (a.map B)) (rb:SlR S1' 1 (a.map B)) (J:Inl) (nn:Nat) (hn:1000 < nn) (R:Xit→FEnv→Heap→Prop) (e:FEnv)
  (he:e 2=.t (.ip [I n,S1,S2])∧e 3=.t (.ip [I n,S1',S2'])∧e 5=.t (I 0))
  (hR1:∀ e,(e 2=.t (.ip [I n,S1,S2])∧e 3=.t (.ip [I n,S1',S2']))→R (.exit 0) e []) :
  wpIter 0 (some [2,3,5]) (wc Tryz.prog pol (ans Tryz.prog pol) J nn 82 il82l0) R nn e []:=by
 have L1:=ra.len
 rw [List.length_map] at L1
 refine loop_range a B (step:=fun i x (_:Unit)=>Ctl.go ()) (fin:=id)
  (St:=fun i _ e h=>h=[]∧e 2=.t (.ip [I n,S1,S2])∧e 3=.t (.ip [I n,S1',S2'])∧e 5=.t (I (i:Nat)))
  (Ex:=fun r x e h=>x=.exit 0∧(e 2=.t (.ip [I n,S1,S2])∧e 3=.t (.ip [I n,S1',S2']))∧h=[]) (s:=()) (by omega) ?_ ?_ (by omega) ⟨rfl,he⟩ ?_
 ·intro i x _ e h Y R' hm hi hx hget hlt hw ⟨h0,hs⟩ hk
  subst h0
  simp only [ctlK_go] at hk
  have I1:=ra.ix 1 i
  have I2:=rb.ix 1 i
  rw [hget] at I1 I2
  have hd:(x != x)=false:=bne_self_eq_false x
  (repeat' first|simp only [il82l0_go,il82l0b,go_sem,hs,L1,I1,I2,hlt,hw,hd]|(with_reducible first|apply wD|apply wT|(apply wM; intro)|(apply wL; intro))|((with_reducible first|refine wA ?_ ?_|refine wE ?_); rfl))
  all_goals (refine hk _ _ ?_; simp only [go_sem,hs,hw])
 ·intro s e h Y R' hlt ⟨h0,hs⟩ hk
  subst h0
  (repeat' first|simp only [il82l0_go,il82l0b,go_sem,hs,L1,hlt]|(with_reducible first|apply wD|apply wT|(apply wM; intro)|(apply wL; intro))|((with_reducible first|refine wA ?_ ?_|refine wE ?_); rfl))
  all_goals (refine hk _ _ _ ⟨rfl,?_,rfl⟩; simp only [go_sem,hs])
 ·intro x e h ⟨h1,h2,h3⟩
  subst h1 h3
  exact hR1 _ h2
theorem tsame_l1 (n:Int) (S1 S2 S1' S2':T) (a:List Lk) (hl:a.length≤1000) (ra:SlR S2 4 (a.map encK)) (rb:SlR S2' 4 (a.map encK)) (J:Inl) (nn:Nat) (hn:1000 < nn) (R:Xit→FEnv→Heap→Prop) (e:FEnv)
  (he:e 2=.t (.ip [I n,S1,S2])∧e 3=.t (.ip [I n,S1',S2'])∧e 6=.t (I 0))
  (hR1:∀ e,(e 2=.t (.ip [I n,S1,S2])∧e 3=.t (.ip [I n,S1',S2']))→R (.exit 2) e []) :
  wpIter 0 (some [2,3,6]) (wc Tryz.prog pol (ans Tryz.prog pol) J nn 82 il82l1) R nn e []:=by
 have L1:=ra.len
 rw [List.length_map] at L1
 refine loop_range a encK (step:=fun i x (_:Unit)=>Ctl.go ()) (fin:=id)
  (St:=fun i _ e h=>h=[]∧e 2=.t (.ip [I n,S1,S2])∧e 3=.t (.ip [I n,S1',S2'])∧e 6=.t (I (i:Nat)))
  (Ex:=fun r x e h=>x=.exit 2∧(e 2=.t (.ip [I n,S1,S2])∧e 3=.t (.ip [I n,S1',S2']))∧h=[]) (s:=()) (by omega) ?_ ?_ (by omega) ⟨rfl,he⟩ ?_
 ·intro i x _ e h Y R' hm hi hx hget hlt hw ⟨h0,hs⟩ hk
  subst h0
  simp only [ctlK_go] at hk
  have I1:=ra.ix 4 i
  have I2:=rb.ix 4 i
  rw [hget] at I1 I2
  (repeat' first|simp only [il82l1_go,il82l1b,go_sem,hs,L1,I1,I2,hlt,hw,encK_cells]|(with_reducible first|apply wD|apply wT|(apply wM; intro)|(apply wL; intro))|((with_reducible first|refine wA ?_ ?_|refine wE ?_); rfl))
  all_goals (refine hk _ _ ?_; simp only [go_sem,hs,hw])
 ·intro s e h Y R' hlt ⟨h0,hs⟩ hk
  subst h0
  (repeat' first|simp only [il82l1_go,il82l1b,go_sem,hs,L1,hlt]|(with_reducible first|apply wD|apply wT|(apply wM; intro)|(apply wL; intro))|((with_reducible first|refine wA ?_ ?_|refine wE ?_); rfl))
  all_goals (refine hk _ _ _ ⟨rfl,?_,rfl⟩; simp only [go_sem,hs])
 ·intro x e h ⟨h1,h2,h3⟩
  subst h1 h3
  exact hR1 _ h2
theorem tSame_ans {n:Int} {S1 S2 S1' S2':T} {st:List Bool} {lk:List Lk} (r1:SlR S1 1 (st.map B)) (r2:SlR S2 4 (lk.map encK)) (q1:SlR S1' 1 (st.map B)) (q2:SlR S2' 4 (lk.map encK)) (l1:st.length≤1000) (l2:lk.length≤1000) :
  ans Tryz.prog pol 82 [.agg [I n,S1,S2],.agg [I n,S1',S2']]=some (B true):=by
 have t1:=r1.sto
 have t2:=r2.sto
 have u1:=q1.sto
 have u2:=q2.sto
 have L1:=r1.len
 have L2:=r2.len
 have M1:=q1.len
 have M2:=q2.len
 rw [List.length_map] at L1 L2 M1 M2
 obtain ⟨nn,hn⟩:∃ nn,1000 < nn:=⟨1001,by omega⟩
 refine ans_go nn 1 il82_eq (Nat.le_of_ble_eq_true rfl) ?_
 (repeat' first|simp only [il82c,go_sem,t1,t2,u1,u2,L1,L2,M1,M2]|(with_reducible first|apply wD|apply wT|(apply wM; intro)|(apply wL; intro))|((with_reducible first|refine wA ?_ ?_|refine wE ?_); rfl))
 refine tsame_l0 n S1 S2 S1' S2' st l1 r1 q1 _ nn hn _ _ (by simp only [go_sem]) ?_
 intro e he
 (repeat' first|simp only [il82c,go_sem,he]|(with_reducible first|apply wD|apply wT|(apply wM; intro)|(apply wL; intro))|((with_reducible first|refine wA ?_ ?_|refine wE ?_); rfl))
 refine tsame_l1 n S1 S2 S1' S2' lk l2 r2 q2 _ nn hn _ _ (by simp only [go_sem,he]) ?_
 intro e he
 (repeat' first|simp only [il82c,go_sem,he]|(with_reducible first|apply wD|apply wT|(apply wM; intro)|(apply wL; intro))|((with_reducible first|refine wA ?_ ?_|refine wE ?_); rfl))
theorem nsame_l0 (n:Int) (S1 S2 S3 S4 S5 S1' S2' S3' S4' S5':T) (a:List Int) (hl:a.length≤1000) (ra:SlR S3 1 (a.map I)) (rb:SlR S3' 1 (a.map I)) (J:Inl) (nn:Nat) (hn:1000 < nn) (R:Xit→FEnv→Heap→Prop) (e:FEnv)
  (he:e 2=.t (.ip [I n,S1,S2,S3,S4,S5])∧e 3=.t (.ip [I n,S1',S2',S3',S4',S5'])∧e 5=.t (I 0))
  (hR1:∀ e,(e 2=.t (.ip [I n,S1,S2,S3,S4,S5])∧e 3=.t (.ip [I n,S1',S2',S3',S4',S5']))→R (.exit 0) e []) :
  wpIter 0 (some [2,3,5]) (wc Tryz.prog pol (ans Tryz.prog pol) J nn 38 il38l0) R nn e []:=by
 have L1:=ra.len
 rw [List.length_map] at L1
 refine loop_range a I (step:=fun i x (_:Unit)=>Ctl.go ()) (fin:=id)
  (St:=fun i _ e h=>h=[]∧e 2=.t (.ip [I n,S1,S2,S3,S4,S5])∧e 3=.t (.ip [I n,S1',S2',S3',S4',S5'])∧e 5=.t (I (i:Nat)))
  (Ex:=fun r x e h=>x=.exit 0∧(e 2=.t (.ip [I n,S1,S2,S3,S4,S5])∧e 3=.t (.ip [I n,S1',S2',S3',S4',S5']))∧h=[]) (s:=()) (by omega) ?_ ?_ (by omega) ⟨rfl,he⟩ ?_
 ·intro i x _ e h Y R' hm hi hx hget hlt hw ⟨h0,hs⟩ hk
  subst h0
  simp only [ctlK_go] at hk
  have I1:=ra.ix 1 i
  have I2:=rb.ix 1 i
  rw [hget] at I1 I2
  (repeat' first|simp only [il38l0_go,il38l0b,go_sem,hs,L1,I1,I2,hlt,hw]|(with_reducible first|apply wD|apply wT|(apply wM; intro)|(apply wL; intro))|((with_reducible first|refine wA ?_ ?_|refine wE ?_); rfl))
  all_goals (refine hk _ _ ?_; simp only [go_sem,hs,hw])
 ·intro s e h Y R' hlt ⟨h0,hs⟩ hk
  subst h0
  (repeat' first|simp only [il38l0_go,il38l0b,go_sem,hs,L1,hlt]|(with_reducible first|apply wD|apply wT|(apply wM; intro)|(apply wL; intro))|((with_reducible first|refine wA ?_ ?_|refine wE ?_); rfl))
  all_goals (refine hk _ _ _ ⟨rfl,?_,rfl⟩; simp only [go_sem,hs])
 ·intro x e h ⟨h1,h2,h3⟩
  subst h1 h3
  exact hR1 _ h2
theorem nsame_l1 (n:Int) (S1 S2 S3 S4 S5 S1' S2' S3' S4' S5':T) (a:List Bool) (hl:a.length≤1000) (ra:SlR S4 1 (a.map B)) (rb:SlR S4' 1 (a.map B)) (J:Inl) (nn:Nat) (hn:1000 < nn) (R:Xit→FEnv→Heap→Prop) (e:FEnv)
  (he:e 2=.t (.ip [I n,S1,S2,S3,S4,S5])∧e 3=.t (.ip [I n,S1',S2',S3',S4',S5'])∧e 6=.t (I 0))
  (hR1:∀ e,(e 2=.t (.ip [I n,S1,S2,S3,S4,S5])∧e 3=.t (.ip [I n,S1',S2',S3',S4',S5']))→R (.exit 2) e []) :
  wpIter 0 (some [2,3,6]) (wc Tryz.prog pol (ans Tryz.prog pol) J nn 38 il38l1) R nn e []:=by
 have L1:=ra.len
 rw [List.length_map] at L1
 refine loop_range a B (step:=fun i x (_:Unit)=>Ctl.go ()) (fin:=id)
  (St:=fun i _ e h=>h=[]∧e 2=.t (.ip [I n,S1,S2,S3,S4,S5])∧e 3=.t (.ip [I n,S1',S2',S3',S4',S5'])∧e 6=.t (I (i:Nat)))
  (Ex:=fun r x e h=>x=.exit 2∧(e 2=.t (.ip [I n,S1,S2,S3,S4,S5])∧e 3=.t (.ip [I n,S1',S2',S3',S4',S5']))∧h=[]) (s:=()) (by omega) ?_ ?_ (by omega) ⟨rfl,he⟩ ?_
 ·intro i x _ e h Y R' hm hi hx hget hlt hw ⟨h0,hs⟩ hk
  subst h0
  simp only [ctlK_go] at hk
  have I1:=ra.ix 1 i
  have I2:=rb.ix 1 i
  rw [hget] at I1 I2
  have hd:(x != x)=false:=bne_self_eq_false x
  (repeat' first|simp only [il38l1_go,il38l1b,go_sem,hs,L1,I1,I2,hlt,hw,hd]|(with_reducible first|apply wD|apply wT|(apply wM; intro)|(apply wL; intro))|((with_reducible first|refine wA ?_ ?_|refine wE ?_); rfl))
  all_goals (refine hk _ _ ?_; simp only [go_sem,hs,hw])
 ·intro s e h Y R' hlt ⟨h0,hs⟩ hk
  subst h0
  (repeat' first|simp only [il38l1_go,il38l1b,go_sem,hs,L1,hlt]|(with_reducible first|apply wD|apply wT|(apply wM; intro)|(apply wL; intro))|((with_reducible first|refine wA ?_ ?_|refine wE ?_); rfl))
  all_goals (refine hk _ _ _ ⟨rfl,?_,rfl⟩; simp only [go_sem,hs])
 ·intro x e h ⟨h1,h2,h3⟩
  subst h1 h3
  exact hR1 _ h2
def sameB (xs ys:List Bx):Prop:=xs.length=ys.length∧∀ (i:Nat) (x y:Bx),xs[i]? = some x→ys[i]? = some y→ctX x=ctX y
def smallB (xs:List Bx):Prop:=xs.length≤1000∧∀ x∈xs,(ctX x).ports.length≤1000∧(ctX x).costs.length≤1000∧(ctX x).heard.length≤1000
theorem nsame_l2 (n:Int) (S1 S2 S3 S4 S5 S1' S2' S3' S4' S5':T) (xs ys:List Bx) (hl:smallB xs) (hs:sameB xs ys) (ra:SlR S5 5 (xs.map encX)) (rb:SlR S5' 5 (ys.map encX)) (J:Inl) (nn:Nat) (hn:1000 < nn) (R:Xit→FEnv→Heap→Prop) (e:FEnv)
  (he:e 2=.t (.ip [I n,S1,S2,S3,S4,S5])∧e 3=.t (.ip [I n,S1',S2',S3',S4',S5'])∧e 7=.t (I 0))
  (hR1:∀ e,R (.exit 4) e []) :
  wpIter 0 (some [2,3,7]) (wc Tryz.prog pol (ans Tryz.prog pol) J nn 38 il38l2) R nn e []:=by
 have L1:=ra.len
 rw [List.length_map] at L1
 obtain ⟨hl0,hl⟩:=hl
 obtain ⟨hle,hs⟩:=hs
 refine loop_range xs encX (step:=fun i x (_:Unit)=>Ctl.go ()) (fin:=id)
  (St:=fun i _ e h=>h=[]∧e 2=.t (.ip [I n,S1,S2,S3,S4,S5])∧e 3=.t (.ip [I n,S1',S2',S3',S4',S5'])∧e 7=.t (I (i:Nat)))
  (Ex:=fun r x e h=>x=.exit 4∧h=[]) (s:=()) (by omega) ?_ ?_ (by omega) ⟨rfl,he⟩ ?_
 ·intro i x _ e h Y R' hm hi hx hget hlt hw ⟨h0,hs'⟩ hk
  subst h0
  simp only [ctlK_go] at hk
  obtain ⟨y,hy⟩:∃ y,ys[i]? = some y:=⟨ys[i]'(by omega),by simp⟩
  have I1:=ra.ix 5 i
  have I2:=rb.ix 5 i
  have hgy:(ys.map encX)[i]? = some (encX y):=by simp [hy]
  rw [hget] at I1
  rw [hgy] at I2
  obtain ⟨b1,b2,b3⟩:=hl x hm
  have k1:=sameX_ans x y b1 b2 b3 (hs i x y hx hy)
  obtain ⟨A1,A2,A3,ex,_,_,_⟩:=bxC_split x
  obtain ⟨B1,B2,B3,ey,_,_,_⟩:=bxC_split y
  have ex:encX x=.agg [I (ctX x).p,I (ctX x).n,A1,A2,A3]:=congrArg T.agg ex
  have ey:encX y=.agg [I (ctX y).p,I (ctX y).n,B1,B2,B3]:=congrArg T.agg ey
  rw [ex] at I1 k1
  rw [ey] at I2 k1
  (repeat' first|simp only [il38l2_go,il38l2b,go_sem,hs',L1,I1,I2,hlt,hw,k1]|(with_reducible first|apply wD|apply wT|(apply wM; intro)|(apply wL; intro))|((with_reducible first|refine wA ?_ ?_|refine wE ?_); rfl))
  all_goals (refine hk _ _ ?_; simp only [go_sem,hs',hw])
 ·intro s e h Y R' hlt ⟨h0,hs⟩ hk
  subst h0
  (repeat' first|simp only [il38l2_go,il38l2b,go_sem,hs,L1,hlt]|(with_reducible first|apply wD|apply wT|(apply wM; intro)|(apply wL; intro))|((with_reducible first|refine wA ?_ ?_|refine wE ?_); rfl))
  all_goals exact hk _ _ _ ⟨rfl,rfl⟩
 ·intro x e h ⟨h1,h3⟩
  subst h1 h3
  exact hR1 _
theorem nSame_ans {n:Int} {S1 S2 S3 S4 S5 S1' S2' S3' S4' S5':T} {st:List Bool} {lk:List Lk} {pr:List Int} {dn:List Bool} {xs ys:List Bx} (r1:SlR S1 1 (st.map B)) (r2:SlR S2 4 (lk.map encK)) (r3:SlR S3 1 (pr.map I)) (r4:SlR S4 1 (dn.map B)) (r5:SlR S5 5 (xs.map encX))
  (q1:SlR S1' 1 (st.map B)) (q2:SlR S2' 4 (lk.map encK)) (q3:SlR S3' 1 (pr.map I)) (q4:SlR S4' 1 (dn.map B)) (q5:SlR S5' 5 (ys.map encX)) (l1:st.length≤1000) (l2:lk.length≤1000) (l3:pr.length≤1000) (l4:dn.length≤1000) (l5:smallB xs) (hxy:sameB xs ys) :
  ans Tryz.prog pol 38 [.agg [I n,S1,S2,S3,S4,S5],.agg [I n,S1',S2',S3',S4',S5']]=some (B true):=by
 have k1:=tSame_ans (n:=n) r1 r2 q1 q2 l1 l2
 have t1:=r1.sto
 have t2:=r2.sto
 have t3:=r3.sto
 have t4:=r4.sto
 have t5:=r5.sto
 have u1:=q1.sto
 have u2:=q2.sto
 have u3:=q3.sto
 have u4:=q4.sto
 have u5:=q5.sto
 have L3:=r3.len
 have L4:=r4.len
 have L5:=r5.len
 have M3:=q3.len
 have M4:=q4.len
 have M5:=q5.len
 rw [List.length_map] at L3 L4 L5 M3 M4 M5
 rw [← hxy.1] at M5
 obtain ⟨nn,hn⟩:∃ nn,1000 < nn:=⟨1001,by omega⟩
 refine ans_go nn 1 il38_eq (Nat.le_of_ble_eq_true rfl) ?_
 (repeat' first|simp only [il38c,go_sem,k1,t1,t2,t3,t4,t5,u1,u2,u3,u4,u5,L3,L4,L5,M3,M4,M5]|(with_reducible first|apply wD|apply wT|(apply wM; intro)|(apply wL; intro))|((with_reducible first|refine wA ?_ ?_|refine wE ?_); rfl))
 refine nsame_l0 n S1 S2 S3 S4 S5 S1' S2' S3' S4' S5' pr l3 r3 q3 _ nn hn _ _ (by simp only [go_sem]) ?_
 intro e he
 (repeat' first|simp only [il38c,go_sem,he]|(with_reducible first|apply wD|apply wT|(apply wM; intro)|(apply wL; intro))|((with_reducible first|refine wA ?_ ?_|refine wE ?_); rfl))
 refine nsame_l1 n S1 S2 S3 S4 S5 S1' S2' S3' S4' S5' dn l4 r4 q4 _ nn hn _ _ (by simp only [go_sem,he]) ?_
 intro e he
 (repeat' first|simp only [il38c,go_sem,he]|(with_reducible first|apply wD|apply wT|(apply wM; intro)|(apply wL; intro))|((with_reducible first|refine wA ?_ ?_|refine wE ?_); rfl))
 refine nsame_l2 n S1 S2 S3 S4 S5 S1' S2' S3' S4' S5' xs ys l5 hxy r5 q5 _ nn hn _ _ (by simp only [go_sem,he]) ?_
 intro e
 (repeat' first|simp only [il38c,go_sem]|(with_reducible first|apply wD|apply wT|(apply wM; intro)|(apply wL; intro))|((with_reducible first|refine wA ?_ ?_|refine wE ?_); rfl))
theorem rPrios_ans (c c1 c2:Bool) (t:Tpo) (l:List Int) (hl:l.length≤900):ans Tryz.prog pol 11 [tpT c1 c2 t,.sl c 1 (l.map I)]=some (B (rankL t l)):=by
 refine ans_go 1000 1 il11_eq (Nat.le_of_ble_eq_true rfl) ?_
 by_cases h:(l.length:Int)=t.nodes
 rotate_left
 ·have d:=decide_eq_false h
  have hr:rankL t l=false:=by rw [rankL,d,Bool.false_and]
  rw [hr]
  (repeat' first|simp only [il11c,go_sem,d]|(with_reducible first|apply wD|apply wT|(apply wM; intro)|(apply wL; intro))|((with_reducible first|refine wA ?_ ?_|refine wE ?_); rfl))
 have d:=decide_eq_true h
 have hr:rankL t l=l.all (fun p=>decide (0≤p∧p≤15)):=by rw [rankL,d,Bool.true_and]
 rw [hr]
 (repeat' first|simp only [il11c,go_sem,d]|(with_reducible first|apply wD|apply wT|(apply wM; intro)|(apply wL; intro))|((with_reducible first|refine wA ?_ ?_|refine wE ?_); rfl))
 refine loop_range l I (step:=fun i x (_:Unit)=>if decide (0≤x∧x≤15)=true then Ctl.go () else Ctl.out false) (fin:=fun _=>true)
  (St:=fun i _ e h=>(e 1=.t (.sl c 1 (l.map I))∧e 5=.t (I (i:Nat)))∧h=[])
  (Ex:=fun r x e h=>r=true∧x=.exit 0∨r=false∧x=.ret∧e 4=.t (B false)) (s:=()) (by omega) ?_ ?_ (by omega) ?_ ?_
 ·intro i x _ e h Y R hm hi hx hget hlt hw ⟨hs,hh⟩ hk
  subst hh
  by_cases g1:x < 0
  ·have e1:=decide_eq_true g1
   rw [if_neg (by rw [decide_eq_true_eq]; omega),ctlK_out] at hk
   (repeat' first|simp only [il11l0_go,il11l0b,go_sem,hs,hget,hlt,e1]|(with_reducible first|apply wD|apply wT|(apply wM; intro)|(apply wL; intro))|((with_reducible first|refine wA ?_ ?_|refine wE ?_); rfl))
   all_goals (refine hk _ _ _ (.inr ⟨rfl,rfl,?_⟩); simp only [go_sem])
  ·have e1:=decide_eq_false g1
   by_cases g2:15 < x
   ·have e2:=decide_eq_true g2
    rw [if_neg (by rw [decide_eq_true_eq]; omega),ctlK_out] at hk
    (repeat' first|simp only [il11l0_go,il11l0b,go_sem,hs,hget,hlt,e1,e2]|(with_reducible first|apply wD|apply wT|(apply wM; intro)|(apply wL; intro))|((with_reducible first|refine wA ?_ ?_|refine wE ?_); rfl))
    all_goals (refine hk _ _ _ (.inr ⟨rfl,rfl,?_⟩); simp only [go_sem])
   ·have e2:=decide_eq_false g2
    rw [if_pos (by rw [decide_eq_true_eq]; omega),ctlK_go] at hk
    (repeat' first|simp only [il11l0_go,il11l0b,go_sem,hs,hget,hlt,hw,e1,e2]|(with_reducible first|apply wD|apply wT|(apply wM; intro)|(apply wL; intro))|((with_reducible first|refine wA ?_ ?_|refine wE ?_); rfl))
    all_goals (refine hk _ _ ⟨?_,rfl⟩; simp only [go_sem,hs,hw])
 ·intro _ e h Y R hlt ⟨hs,hh⟩ hk
  subst hh
  (repeat' first|simp only [il11l0_go,il11l0b,go_sem,hs,hlt]|(with_reducible first|apply wD|apply wT|(apply wM; intro)|(apply wL; intro))|((with_reducible first|refine wA ?_ ?_|refine wE ?_); rfl))
  all_goals (refine hk _ _ _ (.inl ?_); simp only [go_sem])
 ·refine ⟨?_,rfl⟩
  simp only [go_sem]
 ·intro x e h hx
  have hf:∀ (l:List Int) (i:Nat),foldC (fun i x (_:Unit)=>if decide (0≤x∧x≤15)=true then Ctl.go () else Ctl.out false) (fun _=>true) i l ()=l.all (fun p=>decide (0≤p∧p≤15)):=by
   intro l
   induction l with
   | nil=>intro i; rfl
   | cons x l ih =>
    intro i
    rw [List.all_cons]
    by_cases q:decide (0≤x∧x≤15)=true
    ·rw [foldC_go (s':=()) (if_pos q),ih,q,Bool.true_and]
    ·rw [foldC_out (r:=false) (if_neg q)]
     have q:decide (0≤x∧x≤15)=false:=by simpa using q
     rw [q,Bool.false_and]
  rw [hf] at hx
  rcases hx with ⟨hb,rfl⟩|⟨hb,rfl,e2⟩
  ·rw [hb]
   (repeat' first|simp only [il11c,go_sem]|(with_reducible first|apply wD|apply wT|(apply wM; intro)|(apply wL; intro))|((with_reducible first|refine wA ?_ ?_|refine wE ?_); rfl))
  ·rw [hb]
   (repeat' first|simp only [il11c,go_sem,e2]|(with_reducible first|apply wD|apply wT|(apply wM; intro)|(apply wL; intro))|((with_reducible first|refine wA ?_ ?_|refine wE ?_); rfl))
end Go.Proofs.YtbibdnlbpjnieaaGreat
namespace Go.Proofs.YtbibdnlbpjnieaaGreat
open Go Go.Abs
def sentOk (w:Nw) (S:List (Option (List Hd))):Prop:=S.length=w.bs.length∧∀ n,n < w.bs.length→stA w.t n=false→∃ hs,S[n]? = some (some hs)∧hs.length=(trunkL w.t n).length∧∀ h∈hs,h.is=true→helloP h
def rcvN (w:Nw) (S:List (Option (List Hd))) (s:List Bx × Nat) (n:Nat):List Bx × Nat :=
 (List.range ((S[n]?.getD none).getD []).length).foldl (fun s i=>rcvQ w s ((trunkL w.t n)[i]?.getD 0) (((S[n]?.getD none).getD [])[i]?.getD zH)) s
abbrev sentT (S:List (Option (List Hd))):T:=.sl true 1 (S.map encS)
theorem rcvQ_ok {w:Nw} {s:List Bx × Nat} (h:vBs w s.1) (h2:s.2≤w.bs.length) {p:Nat} {m:Hd} (hm:m.is=true→helloP m) (hp:stA w.t (toP w.t p).toNat=false):vBs w (rcvQ w s p m).1∧(rcvQ w s p m).2≤w.bs.length:=by
 refine ⟨rcvP_ok h hm hp,?_⟩
 unfold rcvQ
 dsimp only
 split <;> omega
theorem rcvN_ok {w:Nw} {S:List (Option (List Hd))} (hS:sentOk w S) {s:List Bx × Nat} (h:vBs w s.1) (h2:s.2≤w.bs.length) {n:Nat} (hn:n < w.bs.length) (hst:stA w.t n=false):vBs w (rcvN w S s n).1∧(rcvN w S s n).2≤w.bs.length:=by
 obtain ⟨hs,h1,hl,hh⟩:=hS.2 n hn hst
 rw [rcvN,h1]
 simp only [Option.getD_some]
 have key:∀ (k:Nat),k≤hs.length→vBs w ((List.range k).foldl (fun s i=>rcvQ w s ((trunkL w.t n)[i]?.getD 0) (hs[i]?.getD zH)) s).1∧((List.range k).foldl (fun s i=>rcvQ w s ((trunkL w.t n)[i]?.getD 0) (hs[i]?.getD zH)) s).2≤w.bs.length:=by
  intro k
  induction k with
  | zero=>intro _; exact ⟨h,h2⟩
  | succ k ih =>
   intro hk
   obtain ⟨i1,i2⟩:=ih (by omega)
   rw [List.range_succ,List.foldl_append,List.foldl_cons,List.foldl_nil]
   obtain ⟨p,hp⟩:∃ p,(trunkL w.t n)[k]? = some p:=⟨(trunkL w.t n)[k]'(by omega),by simp [show k < (trunkL w.t n).length by omega]⟩
   obtain ⟨x,hx⟩:∃ x,hs[k]? = some x:=⟨hs[k]'(by omega),by simp [show k < hs.length by omega]⟩
   rw [hp,hx]
   exact rcvQ_ok i1 i2 (hh x (List.mem_of_getElem? hx)) (mem_trunk.1 (List.mem_of_getElem? hp)).2.2
 exact key hs.length (Nat.le_refl _)
theorem receive_yield (rf:Code × Code) (hrf:rfOf Tryz.prog 60 0=rf) (w:Nw) (hok:okT w.t=true) (hd:w.down.length=w.t.links.length) (hbl:(w.bs.length:Int)=w.t.nodes) (S:List (Option (List Hd))) (hS:sentOk w S)
  (E:FEnv) (hE:E 1=.ref 8 1 0 0∧E 2=.ref 9 1 0 0) (s:List Bx × Nat) (hv:vBs w s.1) (hmr:s.2≤w.bs.length) (n:Nat) (x:Bx) (hx:s.1[n]? = some x) (hst:stA w.t n=false) (dd nn:Nat) (hn:200 < nn) (Q:AV→Heap→Prop)
  (hQ:∀ X',Q (.t (B true)) (hpRc w (sentT S) rf E false (rcvN w S s n)++[.row 5 [.t (.agg (bxC x))] 1]++X')) :
  oB (inl Tryz.prog pol (ans Tryz.prog pol) nn (dd+1) (.yl 11) [.t (I (n:Nat)),.t (.agg (bxC x))] (hpRc w (sentT S) rf E false s++[.row 5 [.t (.agg (bxC x))] 1])) Q:=by
 subst hrf
 obtain ⟨xz,xv⟩:=hv.2 n x hx hst
 obtain ⟨z,c1,c2,c3,b⟩:=x
 dsimp only at xz xv hQ
 subst xz
 have hbc:bxC ⟨false,c1,c2,c3,b⟩=brC c1 c2 c3 b:=rfl
 rw [hbc] at hQ ⊢
 have hnl:n < w.bs.length:=by rw [← hv.1]; exact (List.getElem?_eq_some_iff.1 hx).1
 obtain ⟨hs,hs1,hsl,hsh⟩:=hS.2 n hnl hst
 have gs:(S.map encS)[n]? = some (.sl true 8 (hs.map encH)):=by rw [List.getElem?_map,hs1]; rfl
 have hcs:(T.sl true 8 (hs.map encH)).cells=[.sl true 8 (hs.map encH)]:=rfl
 have hr:rcvN w S s n=(List.range hs.length).foldl (fun s i=>rcvQ w s ((trunkL w.t n)[i]?.getD 0) (hs[i]?.getD zH)) s:=by rw [rcvN,hs1]; rfl
 have hq:=hQ [.row 5 [.t (.agg (brC c1 c2 c3 b))] 1]
 rw [hr] at hq
 have key:([.row 6 [.t zN6] 0,.row 3 [.t stepsT] 1,.row 6 [.agg (nwA 3 5 w)] 1,dnRow w,.row 6 [.agg (nwA 3 5 w)] 1,bsRow s.1 s.2,.row 7 [.agg (nwA 3 5 w++[.t (sentT S)])] 1,.row 1 [.t (.agg [.fn (.func 60) [] []])] 1,
  .row 1 [.ref 6 1 0 0] 0,.row 1 [.t (I 0)] 0,.row 6 [.agg (nwA 3 5 w)] 0,.loop 60 (lpEnv 100 (tidyF (some [1,2]) E)) [17,18] (rfOf Tryz.prog 60 0).1 (rfOf Tryz.prog 60 0).2 true none,.row 5 [.t (.agg (brC c1 c2 c3 b))] 1,.row 5 [.t (.agg (brC c1 c2 c3 b))] 1]:Heap)
   = hpRc w (sentT S) (rfOf Tryz.prog 60 0) E true s++[.row 5 [.t (.agg (brC c1 c2 c3 b))] 1,.row 5 [.t (.agg (brC c1 c2 c3 b))] 1]:=rfl
 have hR:=fun (R:Xit→FEnv→Heap→Prop) (e:FEnv) he hR=>rcv_l0 w hok hd hbl (sentT S) (rfOf Tryz.prog 60 0) E hE c1 c2 c3 b n xv.ports hst hs hsl hsh s hv hmr dd nn hn R e he hR
 rw [← key] at hR
 generalize (List.range hs.length).foldl (fun s i=>rcvQ w s ((trunkL w.t n)[i]?.getD 0) (hs[i]?.getD zH)) s=s2 at *
 simp only [hpRc,rdH,lpRc,List.cons_append,List.nil_append,nwA,bsRow,dnRow] at hq hR ⊢
 refine oB_yl (E:=tidyF (some [1,2]) E) rfl rfl rfl il60r0a_eq il60r0b_eq ?_
 (repeat' first|simp only [il60r0a,il60r0b,go_sem,hE,gs,hcs]|(with_reducible first|apply wD|apply wT|(apply wM; intro)|(apply wL; intro))|((with_reducible first|refine wA ?_ ?_|refine wE ?_); rfl))
 refine hR _ _ (by simp only [go_sem,hE]) ?_
 intro e he
 (repeat' first|simp only [il60r0b,go_sem,he]|(with_reducible first|apply wD|apply wT|(apply wM; intro)|(apply wL; intro))|((with_reducible first|refine wA ?_ ?_|refine wE ?_); rfl))
 all_goals exact hq
theorem stS_ok {w:Nw} {nx:List Bx × Nat→Nat→List Bx × Nat} (hnx:∀ s n,n < w.bs.length→stA w.t n=false→vBs w s.1∧s.2≤w.bs.length→vBs w (nx s n).1∧(nx s n).2≤w.bs.length) {s:List Bx × Nat} {n:Nat} (hn:n < w.bs.length) (h:vBs w s.1∧s.2≤w.bs.length):vBs w (stS w.t nx s n).1∧(stS w.t nx s n).2≤w.bs.length:=by
 unfold stS
 by_cases q:stA w.t n=true
 ·rw [if_pos q]; exact h
 ·rw [if_neg q]; exact hnx s n hn (by simpa using q) h
theorem fold_ok {w:Nw} {nx:List Bx × Nat→Nat→List Bx × Nat} (hnx:∀ s n,n < w.bs.length→stA w.t n=false→vBs w s.1∧s.2≤w.bs.length→vBs w (nx s n).1∧(nx s n).2≤w.bs.length) {s:List Bx × Nat} (h:vBs w s.1∧s.2≤w.bs.length):∀ k,k≤w.bs.length→vBs w ((List.range k).foldl (stS w.t nx) s).1∧((List.range k).foldl (stS w.t nx) s).2≤w.bs.length:=by
 intro k
 induction k with
 | zero=>intro _; exact h
 | succ k ih =>
  intro hk
  rw [List.range_succ,List.foldl_append,List.foldl_cons,List.foldl_nil]
  exact stS_ok hnx (by omega) (ih (by omega))
theorem receive_ok (w:Nw) (hok:okT w.t=true) (hd:w.down.length=w.t.links.length) (hbl:(w.bs.length:Int)=w.t.nodes) (S:List (Option (List Hd))) (hS:sentOk w S) (bs:List Bx) (mr:Nat) (hmr:mr≤w.bs.length) (hv:vBs w bs) (dd nn:Nat) (hn:200 < nn) (Q:AV→Heap→Prop)
  (hQ:Q (.t (I 0)) (rdH w ((List.range w.bs.length).foldl (stS w.t (rcvN w S)) (bs,mr)).1 ((List.range w.bs.length).foldl (stS w.t (rcvN w S)) (bs,mr)).2 (.t (sentT S)) 60++[.row 1 [.ref 6 1 0 0] 0,.row 1 [.t (I 0)] 1,.row 6 [.agg (nwA 3 5 w)] 0])) :
  oB (inl Tryz.prog pol (ans Tryz.prog pol) nn (dd+3) (.fn 60) [.ref 6 1 0 0] (rdH w bs mr (.t (sentT S)) 60)) Q:=by
 obtain ⟨z1,z2,z3⟩:=okT_size hok
 refine oB_inl il60_eq (Nat.le_of_ble_eq_true rfl) ?_
 simp only [il60c]
 generalize hrf:rfOf Tryz.prog 60 0=rf
 simp only [rdH,nwA]
 (repeat' first|simp only [List.cons_append,List.nil_append,go_sem]|(with_reducible first|apply wD|apply wT|(apply wM; intro)|(apply wL; intro))|((with_reducible first|refine wA ?_ ?_|refine wE ?_); rfl)|((with_reducible refine oB_inl il31_eq ?_ ?_); exact Nat.le_of_ble_eq_true rfl; simp only [il31c]))
 have key:∀ E:FEnv,([.row 6 [.t zN6] 0,.row 3 [.t stepsT] 1,.row 6 [.agg (nwA 3 5 w)] 1,dnRow w,.row 6 [.agg (nwA 3 5 w)] 1,bsRow bs mr,.row 7 [.agg (nwA 3 5 w++[.t (sentT S)])] 1,.row 1 [.t (.agg [.fn (.func 60) [] []])] 1,
  .row 1 [.ref 6 1 0 0] 0,.row 1 [.t (I 0)] 0,.row 6 [.agg (nwA 3 5 w)] 0,.loop 60 (lpEnv 100 (tidyF (some [1,2]) E)) [17,18] rf.1 rf.2 false none]:Heap)=hpRc w (sentT S) rf E false (bs,mr):=fun E=>rfl
 simp only [nwA,List.cons_append,List.nil_append] at key
 rw [key]
 have h1112:11 < 12:=by omega
 have h1012:10 < 12:=by omega
 have h512:5 < 12:=by omega
 have h01:0≤1:=by omega
 have hI0:vBs w (bs,mr).1∧(bs,mr).2≤w.bs.length:=⟨hv,hmr⟩
 have hb100:w.bs.length≤100:=by omega
 have hnx:∀ (s:List Bx × Nat) n,n < w.bs.length→stA w.t n=false→vBs w s.1∧s.2≤w.bs.length→vBs w (rcvN w S s n).1∧(rcvN w S s n).2≤w.bs.length:=fun s n hn hs h=>rcvN_ok hS h.1 h.2 hn hs
 have hfold:=fold_ok hnx hI0 w.bs.length (Nat.le_refl _)
 -- the state,held to what is valid
 let σ:={ s:List Bx × Nat // vBs w s.1∧s.2≤w.bs.length }
 let nx:σ→Nat→σ:=fun s n=>if h:n < w.bs.length∧stA w.t n=false then ⟨rcvN w S s.1 n,hnx s.1 n h.1 h.2 s.2⟩ else s
 have hnxv:∀ (s:σ) n,n < w.bs.length→stA w.t n=false→(nx s n).1=rcvN w S s.1 n:=fun s n h1 h2=>by simp only [nx]; rw [dif_pos ⟨h1,h2⟩]
 have hstv:∀ (s:σ) n,n < w.bs.length→(stS w.t nx s n).1=stS w.t (rcvN w S) s.1 n:=fun s n h1=>by
  unfold stS
  by_cases q:stA w.t n=true
  ·rw [if_pos q,if_pos q]
  ·rw [if_neg q,if_neg q]; exact hnxv s n h1 (by simpa using q)
 have hfv:∀ (s:σ) k,k≤w.bs.length→((List.range k).foldl (stS w.t nx) s).1=(List.range k).foldl (stS w.t (rcvN w S)) s.1:=by
  intro s k
  induction k with
  | zero=>intro _; rfl
  | succ k ih =>
   intro hk
   rw [List.range_succ,List.foldl_append,List.foldl_append,List.foldl_cons,List.foldl_cons,List.foldl_nil,List.foldl_nil,hstv _ _ (by omega),ih (by omega)]
 have hLs:∀ s:σ,s.1.1.length=w.bs.length:=fun s=>by have h:=s.2.1; unfold vBs at h; exact h.1
 have hs0:∀ E:FEnv,hpRc w (sentT S) rf E false (bs,mr)=(fun s:σ=>hpRc w (sentT S) rf E false s.1) ⟨(bs,mr),hI0⟩:=fun E=>rfl
 rw [hs0]
 with_reducible refine all_iterR (fun s:σ=>hpRc w (sentT S) rf _ false s.1) 12 (fun s=>rfl) nx (dd+1) nn 11 (fun n s=>True) w (fun _ _ _ _=>trivial) ?_ h1112 10 3 5 0 h1012 h01 h512 (fun s=>s.1.1) (fun s=>s.1.2) hLs (fun s=>s.2.2) (fun _ _=>rfl) (fun _ _=>rfl) z2 hbl hb100 ?_ ⟨(bs,mr),hI0⟩ trivial _ hn ?_
 ·intro s h q hq
  exact hpRc_frz w (sentT S) rf _ (by simp only [go_sem]) false s.1 h q hq
 ·intro s n x Q hx hs _ hQ
  have hnl:n < w.bs.length:=by rw [← hLs s]; exact (List.getElem?_eq_some_iff.1 hx).1
  have hQ':∀ X',Q (.t (B true)) (hpRc w (sentT S) rf _ false (nx s n).1++[.row 5 [.t (.agg (bxC x))] 1]++X'):=hQ
  rw [hnxv s n hnl hs] at hQ'
  exact receive_yield rf hrf w hok hd hbl S hS _ (by simp only [go_sem]) s.1 s.2.1 s.2.2 n x hx hs dd nn hn Q hQ'
 ·intro v
  change rfEnd _ _ _ v (hpRc w (sentT S) rf _ false ((List.range w.bs.length).foldl (stS w.t nx) ⟨(bs,mr),hI0⟩).1)
  rw [hfv _ _ (Nat.le_refl _)]
  generalize (List.range w.bs.length).foldl (stS w.t (rcvN w S)) (bs,mr)=s at *
  simp only [hpRc,rdH,lpRc,List.cons_append,List.nil_append,nwA,bsRow,dnRow] at hQ ⊢
  (repeat' first|simp only [il60c,go_sem,frz_mapA]|(with_reducible first|apply wD|apply wT|(apply wM; intro)|(apply wL; intro))|((with_reducible first|refine wA ?_ ?_|refine wE ?_); rfl))
  all_goals exact hQ
end Go.Proofs.YtbibdnlbpjnieaaGreat
namespace Go.Proofs.YtbibdnlbpjnieaaGreat
open Go Go.Abs
def tkB (b:Br):Bx:=⟨false,true,true,true,putB b (b.heard.map tickH)⟩
def tkN (w:Nw) (s:List Bx × Nat) (n:Nat):List Bx × Nat:=(s.1.set n (tkB (s.1[n]?.getD zBx).b),w.bs.length)
theorem VB.tick {w:Nw} {n:Nat} {b:Br} (h:VB w n b):VB w n (putB b (b.heard.map tickH)):=by
 refine h.put (by simp) fun x hx=>?_
 obtain ⟨y,hy,rfl⟩:=List.mem_map.1 hx
 exact okH_tick (okB_all h.ok y hy)
theorem tkN_ok {w:Nw} {s:List Bx × Nat} (h:vBs w s.1) (h2:s.2≤w.bs.length) {n:Nat} (hn:n < w.bs.length) (hst:stA w.t n=false):vBs w (tkN w s n).1∧(tkN w s n).2≤w.bs.length:=by
 refine ⟨⟨by simp [tkN,h.1],fun m x hx hs=>?_⟩,Nat.le_refl _⟩
 simp only [tkN,List.getElem?_set] at hx
 split at hx
 ·rename_i hm
  split at hx
  ·rename_i hlt
   obtain rfl:=Option.some.inj hx
   subst hm
   obtain ⟨y,hy⟩:∃ y,s.1[n]? = some y:=⟨s.1[n]'hlt,by simp [hlt]⟩
   obtain ⟨_,hv⟩:=h.2 n y hy hst
   rw [hy]
   exact ⟨rfl,hv.tick⟩
  ·cases hx
 ·exact h.2 m x hx hs
noncomputable def lpTk (rf:Code × Code) (E:FEnv) (busy:Bool):AObj:=.loop 61 (lpEnv 31 (tidyF (some [1,2]) E)) [12,13] rf.1 rf.2 busy none
noncomputable def hpTk (w:Nw) (sent:T) (rf:Code × Code) (E:FEnv) (s:List Bx × Nat):Heap :=
 rdH w s.1 s.2 (.t sent) 61++[.row 1 [.ref 6 1 0 0] 0,.row 1 [.t (I 0)] 0,.row 6 [.agg (nwA 3 5 w)] 0,lpTk rf E false]
theorem hpTk_frz (w:Nw) (sent:T) (rf:Code × Code) (E:FEnv) (hE:E 1=.ref 8 1 0 0∧E 2=.ref 9 1 0 0) (s:List Bx × Nat) (h:Heap) (q:Nat) (hq:12≤q):mapO (frzObj h (fromB q)) (hpTk w sent rf E s)=some (hpTk w sent rf E s):=by
 have f8:decide (q≤8)=false:=decide_eq_false (by omega)
 have f9:decide (q≤9)=false:=decide_eq_false (by omega)
 have f3:decide (q≤3)=false:=decide_eq_false (by omega)
 have f5:decide (q≤5)=false:=decide_eq_false (by omega)
 have f6:decide (q≤6)=false:=decide_eq_false (by omega)
 have h1:frzObj h (fromB q) (lpTk rf E false)=some (lpTk rf E false):=by
  rw [lpTk,frz_loop]
  simp only [go_sem,hE,f8,f9]
 have a1:avoidAll (fromB q) [.agg (nwA 3 5 w)]=true:=by simp [nwA,avoidAll,avoid,fromB,f3,f5]
 have a2:avoidAll (fromB q) [.agg (nwA 3 5 w++[.t sent])]=true:=by simp [nwA,avoidAll,avoid,fromB,f3,f5]
 have a3:avoidAll (fromB q) [.ref 6 1 0 0]=true:=by simp [avoidAll,avoid,fromB,f6]
 have a4:∀ x:T,avoidAll (fromB q) [.t x]=true:=fun x=>by simp [avoidAll,avoid]
 simp only [hpTk,rdH,List.cons_append,List.nil_append,dnRow,bsRow,mapO,h1,frz_mapA,frz_rowA a1,frz_rowA a2,frz_rowA a3,frz_rowA (a4 _)]
theorem tick_yield (rf:Code × Code) (hrf:rfOf Tryz.prog 61 0=rf) (w:Nw) (hb100:w.bs.length≤100) (sent:T)
  (E:FEnv) (hE:E 1=.ref 8 1 0 0∧E 2=.ref 9 1 0 0) (s:List Bx × Nat) (hv:vBs w s.1) (hmr:s.2≤w.bs.length) (n:Nat) (x:Bx) (hx:s.1[n]? = some x) (hst:stA w.t n=false) (dd nn:Nat) (hn:200 < nn) (Q:AV→Heap→Prop)
  (hQ:∀ X',Q (.t (B true)) (hpTk w sent rf E (tkN w s n)++[.row 5 [.t (.agg (bxC x))] 1]++X')) :
  oB (inl Tryz.prog pol (ans Tryz.prog pol) nn (dd+1) (.yl 11) [.t (I (n:Nat)),.t (.agg (bxC x))] (hpTk w sent rf E s++[.row 5 [.t (.agg (bxC x))] 1])) Q:=by
 subst hrf
 obtain ⟨xz,xv⟩:=hv.2 n x hx hst
 have hnl:n < w.bs.length:=by rw [← hv.1]; exact (List.getElem?_eq_some_iff.1 hx).1
 obtain ⟨z,c1,c2,c3,b⟩:=x
 dsimp only at xz xv hQ
 subst xz
 have hbc:bxC ⟨false,c1,c2,c3,b⟩=brC c1 c2 c3 b:=rfl
 rw [hbc] at hQ ⊢
 have k1:=Tick_ok (c1:=c1) (c2:=c2) (c3:=c3) (b:=b) xv.ok
 have hb5:(T.agg (brC c1 c2 c3 b)).cells=brC c1 c2 c3 b:=rfl
 have hset:=map_set (enc:=encX) (l:=s.1) (i:=n) (x:=tkB b)
 have hex:encX (tkB b)=brT true true true (putB b (b.heard.map tickH)):=rfl
 rw [hex] at hset
 have hsl:((s.1.map encX).map AV.t).length=w.bs.length:=by simp [hv.1]
 have gx:((s.1.map encX).map AV.t)[n]? = some (.t (.agg (brC c1 c2 c3 b))):=map_get (enc:=encX) hx
 have hr:tkN w s n=(s.1.set n (tkB b),w.bs.length):=by rw [tkN,hx]; rfl
 have hav:∀ (q:Nat→Bool) (y:T),avoidAll q (((s.1.map encX).map AV.t).set n (.t y))=true:=fun q y=>by rw [← List.map_set,av_map]
 have hq:=hQ
 rw [hr] at hq
 simp only [hpTk,rdH,lpTk,List.cons_append,List.nil_append,nwA,bsRow,dnRow] at hq ⊢
 rw [← hset] at hq
 generalize putB b (b.heard.map tickH)=B' at *
 refine oB_yl (E:=tidyF (some [1,2]) E) rfl rfl rfl il61r0a_eq il61r0b_eq ?_
 (repeat' first|simp only [il61r0a,il61r0b,go_sem,hE,k1,hb5,gx,hsl,hnl,hmr,hav]|(with_reducible first|apply wD|apply wT|(apply wM; intro)|(apply wL; intro))|((with_reducible first|refine wA ?_ ?_|refine wE ?_); rfl))
 all_goals exact hq _
theorem tick_ok (w:Nw) (hok:okT w.t=true) (hbl:(w.bs.length:Int)=w.t.nodes) (sent:T) (bs:List Bx) (mr:Nat) (hmr:mr≤w.bs.length) (hv:vBs w bs) (dd nn:Nat) (hn:200 < nn) (Q:AV→Heap→Prop)
  (hQ:Q (.t (I 0)) (rdH w ((List.range w.bs.length).foldl (stS w.t (tkN w)) (bs,mr)).1 ((List.range w.bs.length).foldl (stS w.t (tkN w)) (bs,mr)).2 (.t sent) 61++[.row 1 [.ref 6 1 0 0] 0,.row 1 [.t (I 0)] 1,.row 6 [.agg (nwA 3 5 w)] 0])) :
  oB (inl Tryz.prog pol (ans Tryz.prog pol) nn (dd+3) (.fn 61) [.ref 6 1 0 0] (rdH w bs mr (.t sent) 61)) Q:=by
 obtain ⟨z1,z2,z3⟩:=okT_size hok
 refine oB_inl il61_eq (Nat.le_of_ble_eq_true rfl) ?_
 simp only [il61c]
 generalize hrf:rfOf Tryz.prog 61 0=rf
 simp only [rdH,nwA]
 (repeat' first|simp only [List.cons_append,List.nil_append,go_sem]|(with_reducible first|apply wD|apply wT|(apply wM; intro)|(apply wL; intro))|((with_reducible first|refine wA ?_ ?_|refine wE ?_); rfl)|((with_reducible refine oB_inl il31_eq ?_ ?_); exact Nat.le_of_ble_eq_true rfl; simp only [il31c]))
 have key:∀ E:FEnv,([.row 6 [.t zN6] 0,.row 3 [.t stepsT] 1,.row 6 [.agg (nwA 3 5 w)] 1,dnRow w,.row 6 [.agg (nwA 3 5 w)] 1,bsRow bs mr,.row 7 [.agg (nwA 3 5 w++[.t sent])] 1,.row 1 [.t (.agg [.fn (.func 61) [] []])] 1,
  .row 1 [.ref 6 1 0 0] 0,.row 1 [.t (I 0)] 0,.row 6 [.agg (nwA 3 5 w)] 0,.loop 61 (lpEnv 31 (tidyF (some [1,2]) E)) [12,13] rf.1 rf.2 false none]:Heap)=hpTk w sent rf E (bs,mr):=fun E=>rfl
 simp only [nwA,List.cons_append,List.nil_append] at key
 rw [key]
 have h1112:11 < 12:=by omega
 have h1012:10 < 12:=by omega
 have h512:5 < 12:=by omega
 have h01:0≤1:=by omega
 have hI0:vBs w (bs,mr).1∧(bs,mr).2≤w.bs.length:=⟨hv,hmr⟩
 have hb100:w.bs.length≤100:=by omega
 have hnx:∀ (s:List Bx × Nat) n,n < w.bs.length→stA w.t n=false→vBs w s.1∧s.2≤w.bs.length→vBs w (tkN w s n).1∧(tkN w s n).2≤w.bs.length:=fun s n hn hs h=>tkN_ok h.1 h.2 hn hs
 let σ:={ s:List Bx × Nat // vBs w s.1∧s.2≤w.bs.length }
 let nx:σ→Nat→σ:=fun s n=>if h:n < w.bs.length∧stA w.t n=false then ⟨tkN w s.1 n,hnx s.1 n h.1 h.2 s.2⟩ else s
 have hnxv:∀ (s:σ) n,n < w.bs.length→stA w.t n=false→(nx s n).1=tkN w s.1 n:=fun s n h1 h2=>by simp only [nx]; rw [dif_pos ⟨h1,h2⟩]
 have hstv:∀ (s:σ) n,n < w.bs.length→(stS w.t nx s n).1=stS w.t (tkN w) s.1 n:=fun s n h1=>by
  unfold stS
  by_cases q:stA w.t n=true
  ·rw [if_pos q,if_pos q]
  ·rw [if_neg q,if_neg q]; exact hnxv s n h1 (by simpa using q)
 have hfv:∀ (s:σ) k,k≤w.bs.length→((List.range k).foldl (stS w.t nx) s).1=(List.range k).foldl (stS w.t (tkN w)) s.1:=by
  intro s k
  induction k with
  | zero=>intro _; rfl
  | succ k ih =>
   intro hk
   rw [List.range_succ,List.foldl_append,List.foldl_append,List.foldl_cons,List.foldl_cons,List.foldl_nil,List.foldl_nil,hstv _ _ (by omega),ih (by omega)]
 have hLs:∀ s:σ,s.1.1.length=w.bs.length:=fun s=>by have h:=s.2.1; unfold vBs at h; exact h.1
 have hs0:∀ E:FEnv,hpTk w sent rf E (bs,mr)=(fun s:σ=>hpTk w sent rf E s.1) ⟨(bs,mr),hI0⟩:=fun E=>rfl
 rw [hs0]
 with_reducible refine all_iterR (fun s:σ=>hpTk w sent rf _ s.1) 12 (fun s=>rfl) nx (dd+1) nn 11 (fun n s=>True) w (fun _ _ _ _=>trivial) ?_ h1112 10 3 5 0 h1012 h01 h512 (fun s=>s.1.1) (fun s=>s.1.2) hLs (fun s=>s.2.2) (fun _ _=>rfl) (fun _ _=>rfl) z2 hbl hb100 ?_ ⟨(bs,mr),hI0⟩ trivial _ hn ?_
 ·intro s h q hq
  exact hpTk_frz w sent rf _ (by simp only [go_sem]) s.1 h q hq
 ·intro s n x Q hx hs _ hQ
  have hnl:n < w.bs.length:=by rw [← hLs s]; exact (List.getElem?_eq_some_iff.1 hx).1
  have hQ':∀ X',Q (.t (B true)) (hpTk w sent rf _ (nx s n).1++[.row 5 [.t (.agg (bxC x))] 1]++X'):=hQ
  rw [hnxv s n hnl hs] at hQ'
  exact tick_yield rf hrf w hb100 sent _ (by simp only [go_sem]) s.1 s.2.1 s.2.2 n x hx hs dd nn hn Q hQ'
 ·intro v
  change rfEnd _ _ _ v (hpTk w sent rf _ ((List.range w.bs.length).foldl (stS w.t nx) ⟨(bs,mr),hI0⟩).1)
  rw [hfv _ _ (Nat.le_refl _)]
  generalize (List.range w.bs.length).foldl (stS w.t (tkN w)) (bs,mr)=s at *
  simp only [hpTk,rdH,lpTk,List.cons_append,List.nil_append,nwA,bsRow,dnRow] at hQ ⊢
  (repeat' first|simp only [il61c,go_sem,frz_mapA]|(with_reducible first|apply wD|apply wT|(apply wM; intro)|(apply wL; intro))|((with_reducible first|refine wA ?_ ?_|refine wE ?_); rfl))
  all_goals exact hQ
end Go.Proofs.YtbibdnlbpjnieaaGreat
namespace Go.Proofs.YtbibdnlbpjnieaaGreat
open Go Go.Abs
def OpI (b:Br) (s:Os'):Prop:=s.t=tp0 b∨∃ i,i < b.heard.length∧leads b i=true∧s.t=⟨(ofr b i).a,(ofr b i).b,(ofr b i).c,i,(ofr b i).g⟩
theorem opF_inv (b:Br):OpI b (opF b):=by
 have key:∀ (l:List Nat) (s:Os'),(∀ i∈l,i < b.heard.length)→OpI b s→OpI b (l.foldl (ldS b (opS b)) s):=by
  intro l
  induction l with
  | nil=>intro s _ h; exact h
  | cons i l ih =>
   intro s hl h
   refine ih _ (fun j hj=>hl j (List.mem_cons_of_mem _ hj)) ?_
   unfold ldS
   split
   ·rename_i hld
    unfold opS
    split
    ·exact .inr ⟨i,hl i (by simp),hld,rfl⟩
    ·exact h
   ·exact h
 exact key _ _ (fun i hi=>by simpa using hi) (.inl rfl)
end Go.Proofs.YtbibdnlbpjnieaaGreat
namespace Go.Proofs.YtbibdnlbpjnieaaGreat
open Go Go.Abs
theorem top_spec {b:Br} (hb:okB b=true):(opF b).t=tp0 b∨∃ i:Nat,i < b.ports.length∧(opF b).t.via=i∧bidP (opF b).t.rp (opF b).t.rn∧lt2 (opF b).t.rp (opF b).t.rn b.p b.n∧(0 < (opF b).t.cost∧(opF b).t.cost≤1048576)∧0≤(opF b).t.age∧(opF b).t.age≤20:=by
 have hl:=okB_len hb
 simp only [okL] at hl
 rcases opF_inv b with h|⟨i,hi,hld,h⟩
 ·exact .inl h
 ·right
  rw [h]
  have h2:=okB_at hb (i:=i) (by omega)
  rw [okAt,decide_eq_true_eq] at h2
  simp only [leads,Bool.and_eq_true,Bool.not_eq_true',decide_eq_false_iff_not,decide_eq_true_eq] at hld
  have hh:=h2.2.2.2.1 hld.1.1
  have hc:=h2.2.2.1
  simp only [helloP] at hh
  refine ⟨i,by omega,rfl,hh.1.1,hld.2,?_,?_⟩
  ·have:=hld.1.2
   simp only [ofr] at this ⊢
   omega
  ·simp only [ofr]; omega
theorem bid_of {b:Br} (hb:okB b=true):bidP b.p b.n:=by
 rw [okB,Bool.and_eq_true,Bool.and_eq_true] at hb
 exact of_decide_eq_true hb.1.2
theorem clm_ok {b:Br} (hb:okB b=true) {i:Nat} (hi:i < b.ports.length):helloP (clm b (opF b).t i):=by
 have h2:=okB_at hb hi
 rw [okAt,decide_eq_true_eq] at h2
 have hp:=h2.1
 have hbid:=bid_of hb
 rcases top_spec hb with h|⟨j,h1,h3,h4,h5,h6,h7⟩
 ·rw [h]
  simp only [helloP,clm,tp0]
  exact ⟨⟨hbid,hbid,by omega,by omega⟩,by omega⟩
 ·simp only [helloP,clm]
  exact ⟨⟨h4,hbid,by omega,by omega⟩,by omega⟩
end Go.Proofs.YtbibdnlbpjnieaaGreat
namespace Go.Proofs.YtbibdnlbpjnieaaGreat
open Go Go.Abs
structure NwOk (w:Nw):Prop where
 t:okT w.t=true
 rank:rankL w.t w.prios=true
 bl:(w.bs.length:Int)=w.t.nodes
 dl:w.down.length=w.t.links.length
 vb:vBs w w.bs
theorem okN_ok {w:Nw} (h:okN w=true) (hz:zOk w):NwOk w:=by
 simp only [okN,Bool.and_eq_true] at h
 obtain ⟨h1,h2,h3,h4,h5⟩:=h
 have h3:=of_decide_eq_true h3
 have h4:=of_decide_eq_true h4
 refine ⟨h1,h2,h3,h4,rfl,fun n x hx hs=>?_⟩
 have hn:n < w.bs.length:=(List.getElem?_eq_some_iff.1 hx).1
 have hbx:bxA w n=x:=by simp [bxA,hx]
 have h6:=List.all_eq_true.1 h5 n (List.mem_range.2 hn)
 rw [soundN,if_neg (by rw [hs]; simp),hbx] at h6
 simp only [Bool.and_eq_true] at h6
 obtain ⟨a1,a2,a3,a4,a5⟩:=h6
 have a2:=of_decide_eq_true a2
 refine ⟨?_,⟨a1,a2.1,a2.2,of_decide_eq_true a3,of_decide_eq_true a4⟩⟩
 cases hz':x.z with
 | false=>rfl
 | true =>
  have:=(hz n hn (by rw [hbx]; exact hz')).1
  rw [hs] at this; cases this
theorem rankL_len {t:Tpo} {l:List Int} (h:rankL t l=true):(l.length:Int)=t.nodes:=by
 simp only [rankL,Bool.and_eq_true] at h; exact of_decide_eq_true h.1
theorem vBs_cpX {w:Nw} {bs:List Bx} (h:vBs w bs):vBs w (bs.map cpX):=by
 refine ⟨by simpa using h.1,fun n x hx hs=>?_⟩
 rw [List.getElem?_map,Option.map_eq_some_iff] at hx
 obtain ⟨y,hy,rfl⟩:=hx
 obtain ⟨h1,h2⟩:=h.2 n y hy hs
 rw [cpX,if_neg (by rw [h1]; simp)]
 exact ⟨rfl,h2⟩
def sentW (w:Nw) (bs:List Bx):List (Option (List Hd)):=(List.range w.bs.length).map (sentAt w.t bs)
def rndB (w:Nw) (bs:List Bx) (mr:Nat):List Bx × Nat :=
 (List.range w.bs.length).foldl (stS w.t (tkN w)) ((List.range w.bs.length).foldl (stS w.t (rcvN w (sentW w bs))) (bs,mr))
theorem sent_ok {w:Nw} {bs:List Bx} (h:vBs w bs):sentOk w (sentW w bs):=by
 refine ⟨by simp [sentW],fun n hn hs=>?_⟩
 obtain ⟨x,hx⟩:∃ x,bs[n]? = some x:=⟨bs[n]'(by rw [h.1]; exact hn),by simp [h.1,hn]⟩
 obtain ⟨h1,h2⟩:=h.2 n x hx hs
 refine ⟨sends x.b,?_,?_,?_⟩
 ·rw [sentW,List.getElem?_map,List.getElem?_range hn,Option.map_some,sentAt,if_neg (by rw [hs]; simp),hx]; rfl
 ·rw [sends,h2.ports]; simp
 ·intro m hm hi
  simp only [sends,List.mem_map,List.mem_range] at hm
  obtain ⟨i,hi',rfl⟩:=hm
  unfold sentF at hi ⊢
  split at hi
  ·rename_i h3; rw [if_pos h3]; exact clm_ok h2.ok hi'
  ·exact (by cases hi)
def rcvL (w:Nw) (S:List (Option (List Hd))) (bs:List Bx) (n:Nat):List Bx :=
 (List.range ((S[n]?.getD none).getD []).length).foldl (fun s i=>rcvP w s ((trunkL w.t n)[i]?.getD 0) (((S[n]?.getD none).getD [])[i]?.getD zH)) bs
def tkL (bs:List Bx) (n:Nat):List Bx:=bs.set n (tkB (bs[n]?.getD zBx).b)
def rndL (w:Nw) (bs:List Bx):List Bx:=(List.range w.bs.length).foldl (stS w.t tkL) ((List.range w.bs.length).foldl (stS w.t (rcvL w (sentW w bs))) bs)
theorem fold_fst {α σ τ:Type} (f:σ × τ→α→σ × τ) (g:σ→α→σ) (h:∀ s a,(f s a).1=g s.1 a):∀ (l:List α) (s:σ × τ),(l.foldl f s).1=l.foldl g s.1:=by
 intro l
 induction l with
 | nil=>intro s; rfl
 | cons a l ih=>intro s; rw [List.foldl_cons,List.foldl_cons,ih,h]
theorem rcvN_fst (w:Nw) (S:List (Option (List Hd))) (s:List Bx × Nat) (n:Nat):(rcvN w S s n).1=rcvL w S s.1 n:=fold_fst _ _ (fun _ _=>rfl) _ _
theorem stS_fst {σ τ:Type} (t:Tpo) (f:σ × τ→Nat→σ × τ) (g:σ→Nat→σ) (h:∀ s a,(f s a).1=g s.1 a) (s:σ × τ) (n:Nat):(stS t f s n).1=stS t g s.1 n:=by
 unfold stS
 split
 ·rfl
 ·exact h s n
theorem rndB_fst (w:Nw) (bs:List Bx) (mr:Nat):(rndB w bs mr).1=rndL w bs:=by
 rw [rndB,fold_fst _ _ (stS_fst w.t (tkN w) tkL (fun _ _=>rfl)),fold_fst _ _ (stS_fst w.t _ _ (rcvN_fst w _))]
 rfl
theorem rcv_all {w:Nw} {S:List (Option (List Hd))} (hS:sentOk w S) {s:List Bx × Nat} (h:vBs w s.1) (h2:s.2≤w.bs.length):vBs w ((List.range w.bs.length).foldl (stS w.t (rcvN w S)) s).1∧((List.range w.bs.length).foldl (stS w.t (rcvN w S)) s).2≤w.bs.length :=
 fold_ok (fun s n hn hs h=>rcvN_ok hS h.1 h.2 hn hs) ⟨h,h2⟩ _ (Nat.le_refl _)
theorem tk_all {w:Nw} {s:List Bx × Nat} (h:vBs w s.1) (h2:s.2≤w.bs.length):vBs w ((List.range w.bs.length).foldl (stS w.t (tkN w)) s).1∧((List.range w.bs.length).foldl (stS w.t (tkN w)) s).2≤w.bs.length :=
 fold_ok (fun s n hn hs h=>tkN_ok h.1 h.2 hn hs) ⟨h,h2⟩ _ (Nat.le_refl _)
theorem rIter_nil (cut:Nat→Bool):∀ (n:Nat) (r:List Bool),rIter cut [] n r=r:=by
 intro n
 induction n with
 | zero=>intro r; rfl
 | succ n ih=>intro r; rw [rIter,rRound,ih]
theorem links_ne {t:Tpo} (h:okT t=true):t.links≠[]:=by
 intro hl
 obtain ⟨⟨z1,z1'⟩,z2,z3⟩:=okT_size h
 simp only [okT,Bool.and_eq_true,Bool.not_eq_true',decide_eq_false_iff_not] at h
 apply h.2.2.2
 rw [reachL,hl,rIter_nil]
 obtain ⟨m,hm⟩:∃ m,t.nodes.toNat=m+2:=⟨t.nodes.toNat - 2,by omega⟩
 rw [hm]
 simp [List.replicate_succ]
theorem sent_frz (w:Nw) (S:List (Option (List Hd))) (hsl:S.length=w.bs.length) (mrs:Nat) (hmrs:mrs≤w.bs.length) (hx:Heap) (hg:hx[10]? = some (.row 1 ((S.map encS).map AV.t) mrs)):frzObj hx (fromB 7) (.row 7 [.agg (nwA 3 5 w++[AV.ms 10 w.bs.length 0 w.bs.length 1 true])] 1)=some (.row 7 [.agg (nwA 3 5 w++[AV.t (sentT S)])] 1):=by
 have hms:frz hx (fromB 7) (.ms 10 w.bs.length 0 w.bs.length 1 true)=some (.t (sentT S)):=frz_msr rfl hg hmrs hsl.symm
 have ha:avoidAll (fromB 7) (nwA 3 5 w++[AV.ms 10 w.bs.length 0 w.bs.length 1 true])=false:=by simp [nwA,avoidAll,avoid,fromB]
 have h3:frz hx (fromB 7) (.ms 3 w.down.length 0 w.down.length 1 false)=some (.ms 3 w.down.length 0 w.down.length 1 false):=frz_ms rfl
 have h5:frz hx (fromB 7) (.ms 5 w.bs.length 0 w.bs.length 5 true)=some (.ms 5 w.bs.length 0 w.bs.length 5 true):=frz_ms rfl
 have hag:frz hx (fromB 7) (.agg (nwA 3 5 w++[AV.ms 10 w.bs.length 0 w.bs.length 1 true]))=some (.agg (nwA 3 5 w++[AV.t (sentT S)])):=by
  rw [frz_aggN (cs':=nwA 3 5 w++[AV.t (sentT S)]) ha (by simp only [nwA,List.cons_append,List.nil_append,mapO,frzCell_t,frzCell_ms,h3,h5,hms])]
  rfl
 have ha2:avoidAll (fromB 7) [.agg (nwA 3 5 w++[AV.ms 10 w.bs.length 0 w.bs.length 1 true])]=false:=by rw [av_cons,av_agg,ha]; rfl
 simp only [frzObj,ha2,mapO,hag,Bool.false_eq_true,if_false]
theorem Round_ok (f:Fl) (w:Nw) (hz:zOk w) (hok:okN w=true) (hb6:∀ x∈w.bs,x.b.ports.length≤900∧x.b.costs.length≤900∧x.b.heard.length≤900):ans Tryz.prog pol 22 [nwT f w]=some (.tup [nwT ⟨false,false,false,false,true⟩ ⟨w.t,w.prios,w.down,rndL w (w.bs.map cpX)⟩,I 0]):=by
 have hO:=okN_ok hok hz
 obtain ⟨z1,z2,z3⟩:=okT_size hO.t
 have hpl:=rankL_len hO.rank
 have hbl:=hO.bl
 have hdl:=hO.dl
 have k1:=CheckN_ans f w hz (by omega) (by omega)
 rw [if_pos hok] at k1
 have hne:w.down≠[]:=by
  have h:=(links_ne hO.t)
  intro hd; rw [hd] at hdl; exact h (List.eq_nil_of_length_eq_zero hdl.symm)
 obtain ⟨nn,h2000⟩:∃ nn,2000 < nn:=⟨2001,by omega⟩
 have hn1:1000 < nn+9:=by omega
 have hn2:200 < nn+9:=by omega
 have hn3:200 < nn+8:=by omega
 have hn4:200 < nn+7:=by omega
 refine ans_go (nn+9) 5 il22_eq (Nat.le_of_ble_eq_true rfl) ?_
 (have hc:=hc0; repeat' first|simp only [hc,il22c,go_sem,k1]|((with_reducible first|refine wG (fun hc=>?_) fun hc=>?_|refine wC (fun hc=>?_) fun hc=>?_|refine wD ?_|refine wT ?_|refine wM fun _=>?_|refine wL fun _=>?_) <;> try simp only [bq1,bq2] at hc)|((with_reducible first|refine wA ?_ ?_|refine wE ?_); rfl))
 refine copied_fresh f w hne (by omega) (by omega) (by omega) (by omega) (by omega) hb6 2 3 (nn+9) hn1 _ ?_
 intro mr hmr
 have hv1:=vBs_cpX hO.vb
 rw [← rndB_fst w _ mr]
 have a1:avoidAll (belowB 2) [.agg (nwA 3 5 w)]=true:=by simp [nwA,avoidAll,avoid,belowB]
 have h100:w.bs.length≤100:=by omega
 have hrb:rndB w (w.bs.map cpX) mr=(List.range w.bs.length).foldl (stS w.t (tkN w)) ((List.range w.bs.length).foldl (stS w.t (rcvN w (sentW w (w.bs.map cpX)))) (w.bs.map cpX,mr)):=rfl
 rw [hrb]
 have hso:=sent_ok hv1
 have hr1:=rcv_all hso (s:=(w.bs.map cpX,mr)) hv1 hmr
 have c1:=send_ok w (w.bs.map cpX) mr hmr ⟨by simp,fun n x hx hs=>⟨(hv1.2 n x hx hs).1,(hv1.2 n x hx hs).2.ok⟩⟩ z2 hbl h100 2 (nn+9) hn2
 have c2:=@receive_ok w hO.t hdl hbl (sentW w (w.bs.map cpX)) hso (w.bs.map cpX) mr hmr hv1 2 (nn+9) hn2
 have c3:=@tick_ok w hO.t hbl (sentT (sentW w (w.bs.map cpX))) _ _ hr1.2 hr1.1 2 (nn+9) hn2
 have hr2:=tk_all hr1.1 hr1.2
 generalize (List.range w.bs.length).foldl (stS w.t (rcvN w (sentW w (w.bs.map cpX)))) (w.bs.map cpX,mr)=r1 at *
 have hsw:((List.range w.bs.length).map (sentAt w.t (w.bs.map cpX)))=sentW w (w.bs.map cpX):=rfl
 rw [hsw] at c1
 have hsl:(sentW w (w.bs.map cpX)).length=w.bs.length:=by simp [sentW]
 generalize sentW w (w.bs.map cpX)=S at *
 have hl1:=hr1.1.1
 generalize (List.range w.bs.length).foldl (stS w.t (tkN w)) (r1.1,r1.2)=r2 at *
 simp only [nwA,bsRow,dnRow,rdH,List.cons_append,List.nil_append] at a1 c1 c2 c3 ⊢
 (have hc:=hc0; repeat' first|simp only [hc,freshK_app,List.replicate_succ,List.replicate_zero,List.drop_succ_cons,List.drop_zero,List.cons_append,List.nil_append,go_sem,av_map,a1,List.drop_succ_cons,List.drop_zero]|((with_reducible first|refine wG (fun hc=>?_) fun hc=>?_|refine wC (fun hc=>?_) fun hc=>?_|refine wD ?_|refine wT ?_|refine wM fun _=>?_|refine wL fun _=>?_) <;> try simp only [bq1,bq2] at hc)|((with_reducible first|refine wA ?_ ?_|refine wE ?_); rfl)|((with_reducible refine iter_unroll (body:=wc _ _ _ _ _ _ il22l0) ?_ ?_); exact Nat.le_of_ble_eq_true rfl; simp only [il22l0_go,il22l0b]))
 with_reducible refine @c1 _ ?_
 intro mrs hmrs
 have hcut:∀ hx:Heap,hx[10]? = some (.row 1 ((S.map encS).map AV.t) mrs)→frzObj hx (fromB 7) (.row 7 [.agg [AV.t (I w.t.nodes),AV.t (T.sl false 1 (List.map B w.t.station)),AV.t (T.sl false 4 (List.map encK w.t.links)),AV.t (T.sl false 1 (List.map I w.prios)),AV.ms 3 w.down.length 0 w.down.length 1 false,AV.ms 5 w.bs.length 0 w.bs.length 5 true,AV.ms 10 w.bs.length 0 w.bs.length 1 true]] 1)
   = some (.row 7 [.agg [AV.t (I w.t.nodes),AV.t (T.sl false 1 (List.map B w.t.station)),AV.t (T.sl false 4 (List.map encK w.t.links)),AV.t (T.sl false 1 (List.map I w.prios)),AV.ms 3 w.down.length 0 w.down.length 1 false,AV.ms 5 w.bs.length 0 w.bs.length 5 true,AV.t (sentT S)]] 1):=fun hx hg=>sent_frz w S hsl mrs hmrs hx hg
 (have hc:=hc0; repeat' first|simp only [hc,freshK_app,go_sem,frz_mapA,hcut]|((with_reducible first|refine wG (fun hc=>?_) fun hc=>?_|refine wC (fun hc=>?_) fun hc=>?_|refine wD ?_|refine wT ?_|refine wM fun _=>?_|refine wL fun _=>?_) <;> try simp only [bq1,bq2] at hc)|((with_reducible first|refine wA ?_ ?_|refine wE ?_); rfl)|((with_reducible refine iter_unroll (body:=wc _ _ _ _ _ _ il22l0) ?_ ?_); exact Nat.le_of_ble_eq_true rfl; simp only [il22l0_go,il22l0b]))
 with_reducible refine @c2 _ ?_
 (have hc:=hc0; repeat' first|simp only [hc,freshK_app,go_sem,frz_mapA]|((with_reducible first|refine wG (fun hc=>?_) fun hc=>?_|refine wC (fun hc=>?_) fun hc=>?_|refine wD ?_|refine wT ?_|refine wM fun _=>?_|refine wL fun _=>?_) <;> try simp only [bq1,bq2] at hc)|((with_reducible first|refine wA ?_ ?_|refine wE ?_); rfl)|((with_reducible refine iter_unroll (body:=wc _ _ _ _ _ _ il22l0) ?_ ?_); exact Nat.le_of_ble_eq_true rfl; simp only [il22l0_go,il22l0b]))
 with_reducible refine @c3 _ ?_
 obtain ⟨hr3,hr4⟩:=hr2
 have hl2:((r2.1.map encX).map AV.t).length=w.bs.length:=by simp [hr3.1]
 (have hc:=hc0; repeat' first|simp only [hc,freshK_app,go_sem,frz_mapA,hr4,hl2]|((with_reducible first|refine wG (fun hc=>?_) fun hc=>?_|refine wC (fun hc=>?_) fun hc=>?_|refine wD ?_|refine wT ?_|refine wM fun _=>?_|refine wL fun _=>?_) <;> try simp only [bq1,bq2] at hc)|((with_reducible first|refine wA ?_ ?_|refine wE ?_); rfl)|((with_reducible refine iter_unroll (body:=wc _ _ _ _ _ _ il22l0) ?_ ?_); exact Nat.le_of_ble_eq_true rfl; simp only [il22l0_go,il22l0b]))
end Go.Proofs.YtbibdnlbpjnieaaGreat
namespace Go.Proofs.YtbibdnlbpjnieaaGreat
open Go Go.Abs
section
variable (f:Fl) (w:Nw) (k:Int) (hz:zOk w)
include hz
end
end Go.Proofs.YtbibdnlbpjnieaaGreat
