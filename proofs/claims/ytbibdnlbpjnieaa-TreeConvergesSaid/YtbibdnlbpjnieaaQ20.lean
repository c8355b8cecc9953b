/- Part 20 of the proof of TreeConverges. -/
import Derived.Test.YtbibdnlbpjnieaaQ19
set_option linter.all false
set_option maxRecDepth 100000
set_option maxHeartbeats 4000000
namespace Go.Proofs.Ytbibdnlbpjnieaa
open Go Go.Abs
theorem Topo_ans (c1 c2 c3 c4:Bool) (d:Dr) (hd:drP d):ans Try.prog pol 22 [drT c1 c2 c3 c4 d]=some (tpT false false (dTopo d)):=by
 obtain ⟨b1,b2,b3⟩:=brN_bd hd
 obtain ⟨s1,s2,s3⟩:=stN_bd hd
 have hbr:=hd.br
 have hsn:=hd.st
 have t1:d.br.tmod 6=d.br % 6:=Int.tmod_eq_emod_of_nonneg hbr.1
 have t2:d.st.tmod 5=d.st % 5:=Int.tmod_eq_emod_of_nonneg hsn.1
 have t3:d.br.tmod 2=d.br % 2:=Int.tmod_eq_emod_of_nonneg hbr.1
 have w1:IntKind.u8.wrap (d.br % 6)=d.br % 6:=by rw [wrap_u8]; omega
 have w2:IntKind.u8.wrap (d.st % 5)=d.st % 5:=by rw [wrap_u8]; omega
 have w3:IntKind.u8.wrap (d.br % 2)=d.br % 2:=by rw [wrap_u8]; omega
 have v1:IntKind.i64.wrap (d.br % 6)=d.br % 6:=wrap_i64 (by omega) (by omega)
 have v2:IntKind.i64.wrap (d.st % 5)=d.st % 5:=wrap_i64 (by omega) (by omega)
 have v3:IntKind.i64.wrap (1+d.br % 6)=((brN d:Nat):Int):=by rw [wrap_i64 (by omega) (by omega)]; omega
 have v4:IntKind.i64.wrap (2+d.st % 5)=((stN d:Nat):Int):=by rw [wrap_i64 (by omega) (by omega)]; omega
 have v5:IntKind.i64.wrap (((brN d:Nat):Int)+(stN d:Nat))=((brN d+stN d:Nat):Int):=by rw [wrap_i64 (by omega) (by omega)]; omega
 have v6:IntKind.i64.wrap (((brN d:Nat):Int) - 1)=((brN d - 1:Nat):Int):=by rw [wrap_i64 (by omega) (by omega)]; omega
 obtain ⟨nn,h2000⟩:∃ nn,2000 < nn:=⟨2001,by omega⟩
 have hn:100 < nn:=by omega
 have hst:=hst_d d hd
 have hl3:=dL2_24 d
 have hcall:=@with_inl c1 c2 c3 c4 d hd ((brN d+stN d:Nat):Int) (dSt d) (dL2 d) hst hl3 (by omega) 1 (Nat.le_refl _) ((brN d - 1:Nat):Int) 0 4 nn hn
 refine ans_go nn 5 il22_eq (Nat.le_of_ble_eq_true rfl) ?_
 simp only [il22c]
 (repeat' first|simp only [List.cons_append,List.nil_append,go_sem,t1,t2,w1,w2,v1,v2,v3,v4,v5]|(with_reducible first|refine wD ?_|refine wT ?_|refine wM fun _=>?_|refine wL fun _=>?_)|((with_reducible first|refine wA ?_ ?_|refine wE ?_);rfl))
 refine topo_l0 c1 c2 c3 c4 d hd 5 nn hn _ _ (by simp only [go_sem,eD]) ?_
 intro e ⟨⟨e1,e2,e3,e5⟩,e4⟩
 simp only [hpT]
 (repeat' first|simp only [List.cons_append,List.nil_append,go_sem,e1,e2,e3,e4,e5]|(with_reducible first|refine wD ?_|refine wT ?_|refine wM fun _=>?_|refine wL fun _=>?_)|((with_reducible first|refine wA ?_ ?_|refine wE ?_);rfl))
 refine topo_l1 c1 c2 c3 c4 d hd 4 nn hn _ _ (by simp only [go_sem,eD,e1,e2,e3,e4,e5]) ?_
 clear e1 e2 e3 e5 e4
 intro e ⟨⟨e1,e2,e3,e5⟩,e4⟩
 simp only [hpT]
 (repeat' first|simp only [List.cons_append,List.nil_append,go_sem,e1,e2,e3,e4,e5]|(with_reducible first|refine wD ?_|refine wT ?_|refine wM fun _=>?_|refine wL fun _=>?_)|((with_reducible first|refine wA ?_ ?_|refine wE ?_);rfl))
 refine topo_l2 c1 c2 c3 c4 d hd 4 nn hn _ _ (by simp only [go_sem,eD,e1,e2,e3,e4,e5]) ?_
 clear e1 e2 e3 e5 e4
 intro e ⟨⟨e1,e2,e3,e5⟩,e4⟩
 have hfin:tpT false false (dTopo d)=.agg [I ((brN d+stN d:Nat):Int),.sl false 1 ((dSt d).map B),.sl false 4 ((dL5 d).map encK)]:=rfl
 have hlS:((dSt d).map B).map AV.t=((dSt d).map B).map AV.t:=rfl
 have hl1:(((dSt d).map B).map AV.t).length=(dSt d).length:=by simp
 have hl2:(((dL5 d).map encK).map AV.t).length=(dL5 d).length:=by simp
 rw [hfin]
 have tail:¬ (2 < brN d∧d.br % 2=0)→dL3 d=dL2 d:=fun h=>by rw [dL3,if_neg h]
 by_cases hb2:2 < brN d
 ·have d1:decide (2 < ((brN d:Nat):Int))=true:=decide_eq_true (by omega)
  by_cases hm:d.br % 2=0
  ·have d2:=decide_eq_true hm
   have h3:dL3 d=wD d (dL2 d) ((brN d - 1:Nat):Int) 0:=by rw [dL3,if_pos ⟨hb2,hm⟩]
   change ∀ Q:AV→Heap→Prop,(∀ q5 m5 q8 l,m5≤1→Q (.agg (tpA _ (dSt d).length (wD d (dL2 d) ((brN d - 1:Nat):Int) 0).length)) (hpT _ (dSt d) (wD d (dL2 d) ((brN d - 1:Nat):Int) 0) (dSt d).length (dL2 d).length 1++zzT _ (dSt d).length q5 m5 q8 l))→_ at hcall
   rw [← h3] at hcall
   simp only [hpT,zzT,drT,List.cons_append,List.nil_append] at hcall ⊢
   (repeat' first|simp only [List.cons_append,List.nil_append,go_sem,e1,e2,e3,e4,e5,d1,d2,t3,w3,v6]|(with_reducible first|refine wD ?_|refine wT ?_|refine wM fun _=>?_|refine wL fun _=>?_)|((with_reducible first|refine wA ?_ ?_|refine wE ?_);rfl))
   with_reducible refine hcall _ ?_
   intro q5 m5 q8 l hm5
   (repeat' first|simp only [List.cons_append,List.nil_append,go_sem,e1,e2,e3,e4,e5]|(with_reducible first|refine wD ?_|refine wT ?_|refine wM fun _=>?_|refine wL fun _=>?_)|((with_reducible first|refine wA ?_ ?_|refine wE ?_);rfl))
   have hheap:([.row 3 [.t zT3] 0,.row 1 (((dSt d).map B).map .t) 0,.row 4 (((dL3 d).map encK).map .t) 0,.row 3 [.agg [.t (I ((brN d+stN d:Nat):Int)),.ms 1 (dSt d).length 0 (dSt d).length 1 false,.ms 2 (dL3 d).length 0 (dL3 d).length 4 false]] 1,.row 3 [.agg (tpA ((brN d+stN d:Nat):Int) (dSt d).length q5)] m5,.row 3 [.agg (tpA ((brN d+stN d:Nat):Int) (dSt d).length q8)] 1,.row 4 [.t (lkT l)] 1]:Heap)=hpU q5 m5 q8 l ((brN d+stN d:Nat):Int) (dSt d) (dL3 d) (dSt d).length (dL3 d).length 1:=rfl
   rw [hheap]
   refine topu_l3 q5 m5 q8 hm5 l c1 c2 c3 c4 d hd 4 nn hn _ _ (by simp only [go_sem,eD,e1,e2,e3,e4,e5]) ?_
   clear e1 e2 e3 e5 e4
   intro e ⟨e1,e2,e3,e5⟩
   simp only [hpU,hpT,zzT,List.cons_append,List.nil_append]
   (repeat' first|simp only [List.cons_append,List.nil_append,go_sem,e1,e2,e3,e5]|(with_reducible first|refine wD ?_|refine wT ?_|refine wM fun _=>?_|refine wL fun _=>?_)|((with_reducible first|refine wA ?_ ?_|refine wE ?_);rfl))
   refine topu_l4 q5 m5 q8 hm5 l c1 c2 c3 c4 d hd 4 nn hn _ _ (by simp only [go_sem,eD,e1,e2,e3,e5]) ?_
   clear e1 e2 e3 e5
   intro e ⟨e1,e2,e3,e5⟩
   simp only [hpU,hpT,zzT,List.cons_append,List.nil_append]
   (repeat' first|simp only [List.cons_append,List.nil_append,go_sem,e1,e2,e3,e5,hl1,hl2]|(with_reducible first|refine wD ?_|refine wT ?_|refine wM fun _=>?_|refine wL fun _=>?_)|((with_reducible first|refine wA ?_ ?_|refine wE ?_);rfl))
  ·have d2:=decide_eq_false hm
   have h3:=tail (fun h=>hm h.2)
   simp only [hpT]
   (repeat' first|simp only [List.cons_append,List.nil_append,go_sem,e1,e2,e3,e4,e5,d1,d2,t3,w3,v6]|(with_reducible first|refine wD ?_|refine wT ?_|refine wM fun _=>?_|refine wL fun _=>?_)|((with_reducible first|refine wA ?_ ?_|refine wE ?_);rfl))
   have hheap:([.row 3 [.t zT3] 0,.row 1 (((dSt d).map B).map .t) 0,.row 4 (((dL2 d).map encK).map .t) 0,.row 3 [.agg (tpA ((brN d+stN d:Nat):Int) (dSt d).length (dL2 d).length)] 1]:Heap)=hpT ((brN d+stN d:Nat):Int) (dSt d) (dL3 d) (dSt d).length (dL3 d).length 1:=by rw [h3]; rfl
   rw [hheap]
   refine topo_l3 c1 c2 c3 c4 d hd 4 nn hn _ _ (by simp only [go_sem,eD,e1,e2,e3,e4,e5]) ?_
   clear e1 e2 e3 e5 e4
   intro e ⟨e1,e2,e3,e5⟩
   simp only [hpT]
   (repeat' first|simp only [List.cons_append,List.nil_append,go_sem,e1,e2,e3,e5]|(with_reducible first|refine wD ?_|refine wT ?_|refine wM fun _=>?_|refine wL fun _=>?_)|((with_reducible first|refine wA ?_ ?_|refine wE ?_);rfl))
   refine topo_l4 c1 c2 c3 c4 d hd 4 nn hn _ _ (by simp only [go_sem,eD,e1,e2,e3,e5]) ?_
   clear e1 e2 e3 e5
   intro e ⟨e1,e2,e3,e5⟩
   simp only [hpT]
   (repeat' first|simp only [List.cons_append,List.nil_append,go_sem,e1,e2,e3,e5,hl1,hl2]|(with_reducible first|refine wD ?_|refine wT ?_|refine wM fun _=>?_|refine wL fun _=>?_)|((with_reducible first|refine wA ?_ ?_|refine wE ?_);rfl))
 ·have d1:decide (2 < ((brN d:Nat):Int))=false:=decide_eq_false (by omega)
  have h3:=tail (fun h=>hb2 h.1)
  simp only [hpT]
  (repeat' first|simp only [List.cons_append,List.nil_append,go_sem,e1,e2,e3,e4,e5,d1]|(with_reducible first|refine wD ?_|refine wT ?_|refine wM fun _=>?_|refine wL fun _=>?_)|((with_reducible first|refine wA ?_ ?_|refine wE ?_);rfl))
  have hheap:([.row 3 [.t zT3] 0,.row 1 (((dSt d).map B).map .t) 0,.row 4 (((dL2 d).map encK).map .t) 0,.row 3 [.agg (tpA ((brN d+stN d:Nat):Int) (dSt d).length (dL2 d).length)] 1]:Heap)=hpT ((brN d+stN d:Nat):Int) (dSt d) (dL3 d) (dSt d).length (dL3 d).length 1:=by rw [h3]; rfl
  rw [hheap]
  refine topo_l3 c1 c2 c3 c4 d hd 4 nn hn _ _ (by simp only [go_sem,eD,e1,e2,e3,e4,e5]) ?_
  clear e1 e2 e3 e5 e4
  intro e ⟨e1,e2,e3,e5⟩
  simp only [hpT]
  (repeat' first|simp only [List.cons_append,List.nil_append,go_sem,e1,e2,e3,e5]|(with_reducible first|refine wD ?_|refine wT ?_|refine wM fun _=>?_|refine wL fun _=>?_)|((with_reducible first|refine wA ?_ ?_|refine wE ?_);rfl))
  refine topo_l4 c1 c2 c3 c4 d hd 4 nn hn _ _ (by simp only [go_sem,eD,e1,e2,e3,e5]) ?_
  clear e1 e2 e3 e5
  intro e ⟨e1,e2,e3,e5⟩
  simp only [hpT]
  (repeat' first|simp only [List.cons_append,List.nil_append,go_sem,e1,e2,e3,e5,hl1,hl2]|(with_reducible first|refine wD ?_|refine wT ?_|refine wM fun _=>?_|refine wL fun _=>?_)|((with_reducible first|refine wA ?_ ?_|refine wE ?_);rfl))
end Go.Proofs.Ytbibdnlbpjnieaa
namespace Go.Proofs.Ytbibdnlbpjnieaa
def setF {α:Type} (f:Nat→α) (i:Nat) (x:α):Nat→α:=fun j=>if j=i then x else f j
theorem setF_same {α:Type} {f:Nat→α} {i:Nat} {x:α}:setF f i x i=x:=by simp [setF]
theorem setF_ne {α:Type} {f:Nat→α} {i j:Nat} {x:α} (h:j≠i):setF f i x j=f j:=by simp [setF,h]
structure Ed where
 a:Nat
 b:Nat
 w:Int
 deriving DecidableEq
def iter {σ:Type} (f:σ→σ):Nat→σ→σ
 | 0,s=>s
 | n+1,s=>f (iter f n s)
theorem iter_fix {σ:Type} {f:σ→σ} {s:σ} {k:Nat} (h:f (iter f k s)=iter f k s):∀ j,iter f (k+j) s=iter f k s:=by
 intro j
 induction j with
 | zero=>rfl
 | succ j ih =>
  show f (iter f (k+j) s)=_
  rw [ih,h]
def cnt (N:Nat) (S:Nat→Bool):Nat:=((List.range N).filter S).length
theorem cnt_le (N:Nat) (S:Nat→Bool):cnt N S≤N:=by
 have:=List.length_filter_le S (List.range N)
 simpa [cnt] using this
theorem cnt_succ (N:Nat) (S:Nat→Bool):cnt (N+1) S=cnt N S+(if S N then 1 else 0):=by
 simp only [cnt,List.range_succ,List.filter_append,List.length_append]
 congr 1
 cases h:S N <;> simp [h]
theorem cnt_mono {N:Nat} {S S':Nat→Bool} (h:∀ i,i < N→S i=true→S' i=true):cnt N S≤cnt N S':=by
 induction N with
 | zero=>simp [cnt]
 | succ N ih =>
  have h1:=ih (fun i hi=>h i (by omega))
  rw [cnt_succ,cnt_succ]
  have h2:=h N (by omega)
  cases hS:S N with
  | false=>simp; omega
  | true=>simp [h2 hS]; omega
theorem cnt_lt {N:Nat} {S S':Nat→Bool} (h:∀ i,i < N→S i=true→S' i=true) {j:Nat} (hj:j < N) (h1:S j=false) (h2:S' j=true):cnt N S+1≤cnt N S':=by
 induction N with
 | zero=>omega
 | succ N ih =>
  rw [cnt_succ,cnt_succ]
  by_cases hjn:j=N
  ·subst hjn
   have:=cnt_mono (N:=j) (S:=S) (S':=S') (fun i hi=>h i (by omega))
   simp [h1,h2]; omega
  ·have:=ih (fun i hi=>h i (by omega)) (by omega)
   have h3:=h N (by omega)
   cases hS:S N with
   | false=>simp; omega
   | true=>simp [h3 hS]; omega
def bpE (S:Nat→Bool) (e:Ed):Nat→Bool:=setF S e.a (S e.a || S e.b)
def sprB (E:List Ed) (S:Nat→Bool):Nat→Bool:=E.foldl bpE S
theorem bpE_mono {S:Nat→Bool} {e:Ed} {i:Nat} (h:S i=true):bpE S e i=true:=by
 unfold bpE setF
 split
 ·rename_i h'; subst h'; simp [h]
 ·exact h
theorem sprB_mono:∀ (E:List Ed) {S:Nat→Bool} {i:Nat},S i=true→sprB E S i=true:=by
 intro E
 induction E with
 | nil=>intro S i h; exact h
 | cons e E ih=>intro S i h; exact ih (bpE_mono h)
theorem sprB_edge:∀ (E:List Ed) {S:Nat→Bool} {e:Ed},e∈E→S e.b=true→sprB E S e.a=true:=by
 intro E
 induction E with
 | nil=>intro S e h; cases h
 | cons e' E ih =>
  intro S e h hb
  cases h with
  | head=>exact sprB_mono E (by unfold bpE; rw [setF_same,hb,Bool.or_true])
  | tail _ h=>exact ih h (bpE_mono hb)
theorem sprB_out {N:Nat}:∀ (E:List Ed) (hE:∀ e∈E,e.a < N) {S:Nat→Bool} {i:Nat},N≤i→sprB E S i=S i:=by
 intro E
 induction E with
 | nil=>intro _ S i h; rfl
 | cons e E ih =>
  intro hE S i h
  have h1:=hE e (by simp)
  have:=ih (fun e he=>hE e (by simp [he])) (S:=bpE S e) h
  show sprB E (bpE S e) i=_
  rw [this]
  unfold bpE
  rw [setF_ne (by omega)]
theorem stab {N:Nat} {E:List Ed} (hE:∀ e∈E,e.a < N) (S:Nat→Bool):sprB E (iter (sprB E) N S)=iter (sprB E) N S:=by
 have step:∀ k,(sprB E (iter (sprB E) k S)=iter (sprB E) k S)∨k+1≤cnt N (iter (sprB E) (k+1) S):=by
  intro k
  induction k with
  | zero =>
   by_cases h:sprB E S=S
   ·exact .inl h
   ·right
    have:∃ j,sprB E S j≠S j:=Classical.byContradiction fun hn=>h (funext fun j=>Classical.byContradiction fun hj=>hn ⟨j,hj⟩)
    obtain ⟨j,hj⟩:=this
    have hjN:j < N:=Nat.lt_of_not_le fun hle=>hj (sprB_out E hE hle)
    have hf:S j=false:=by
     cases hS:S j with
     | false=>rfl
     | true=>exact absurd (by rw [sprB_mono E hS,hS]) hj
    have ht:sprB E S j=true:=by
     cases hS:sprB E S j with
     | true=>rfl
     | false=>exact absurd (by rw [hS,hf]) hj
    have:=cnt_lt (N:=N) (S:=S) (S':=sprB E S) (fun i _ hi=>sprB_mono E hi) hjN hf ht
    show 0+1≤cnt N (sprB E S)
    omega
  | succ k ih =>
   rcases ih with h|h
   ·left
    show sprB E (sprB E (iter (sprB E) k S))=sprB E (iter (sprB E) k S)
    rw [h,h]
   ·by_cases hs:sprB E (iter (sprB E) (k+1) S)=iter (sprB E) (k+1) S
    ·exact .inl hs
    ·right
     generalize hT:iter (sprB E) (k+1) S=T at *
     have:∃ j,sprB E T j≠T j:=Classical.byContradiction fun hn=>hs (funext fun j=>Classical.byContradiction fun hj=>hn ⟨j,hj⟩)
     obtain ⟨j,hj⟩:=this
     have hjN:j < N:=Nat.lt_of_not_le fun hle=>hj (sprB_out E hE hle)
     have hf:T j=false:=by
      cases hS:T j with
      | false=>rfl
      | true=>exact absurd (by rw [sprB_mono E hS,hS]) hj
     have ht:sprB E T j=true:=by
      cases hS:sprB E T j with
      | true=>rfl
      | false=>exact absurd (by rw [hS,hf]) hj
     have:=cnt_lt (N:=N) (S:=T) (S':=sprB E T) (fun i _ hi=>sprB_mono E hi) hjN hf ht
     show k+1+1≤cnt N (sprB E (iter (sprB E) (k+1) S))
     rw [hT]
     omega
 rcases step N with h|h
 ·exact h
 ·have:=cnt_le N (iter (sprB E) (N+1) S); omega
inductive Cn (E:List Ed):Nat→Nat→Prop
 | refl (i:Nat):Cn E i i
 | step {e:Ed} {k:Nat}:e∈E→Cn E e.b k→Cn E e.a k
theorem Cn.trans {E:List Ed} {i j k:Nat} (h1:Cn E i j) (h2:Cn E j k):Cn E i k:=by
 induction h1 with
 | refl=>exact h2
 | step he _ ih=>exact .step he (ih h2)
def symE (E:List Ed):Prop:=∀ e∈E,(⟨e.b,e.a,e.w⟩:Ed)∈E
theorem Cn.symm {E:List Ed} (hs:symE E) {i j:Nat} (h:Cn E i j):Cn E j i:=by
 induction h with
 | refl=>exact .refl _
 | step he _ ih=>exact ih.trans (.step (e:=⟨_,_,_⟩) (hs _ he) (.refl _))
theorem Cn.const {E:List Ed} {α:Type} {f:Nat→α} (hf:∀ e∈E,f e.a=f e.b) {i j:Nat} (h:Cn E i j):f i=f j:=by
 induction h with
 | refl=>rfl
 | step he _ ih=>rw [hf _ he,ih]
theorem Cn.cross {E:List Ed} {P:Nat→Prop} {i j:Nat} (h:Cn E i j) (hi:¬ P i) (hj:P j):∃ e∈E,¬ P e.a∧P e.b:=by
 induction h with
 | refl=>exact absurd hj hi
 | step he _ ih =>
  rename_i e k _
  by_cases hb:P e.b
  ·exact ⟨e,he,hi,hb⟩
  ·exact ih hb hj
theorem reach_iff {N:Nat} {E:List Ed} (hE:∀ e∈E,e.a < N) (s i:Nat):iter (sprB E) N (fun j=>decide (j=s)) i=true↔Cn E i s:=by
 constructor
 ·have key:∀ (E':List Ed),(∀ e∈E',e∈E)→∀ S:Nat→Bool,(∀ i,S i=true→Cn E i s)→∀ i,sprB E' S i=true→Cn E i s:=by
   intro E'
   induction E' with
   | nil=>intro _ S h; exact h
   | cons e E' ih =>
    intro hm S h
    refine ih (fun e he=>hm e (by simp [he])) (bpE S e) ?_
    intro i hi
    unfold bpE setF at hi
    split at hi
    ·rename_i h'
     subst h'
     rw [Bool.or_eq_true] at hi
     rcases hi with hi|hi
     ·exact h _ hi
     ·exact .step (hm e (by simp)) (h _ hi)
    ·exact h _ hi
  have:∀ n i,iter (sprB E) n (fun j=>decide (j=s)) i=true→Cn E i s:=by
   intro n
   induction n with
   | zero=>intro i hi; simp only [iter,decide_eq_true_eq] at hi; subst hi; exact .refl _
   | succ n ih=>exact key E (fun _ h=>h) _ ih
  exact this N i
 ·intro h
  have hmono:∀ n,iter (sprB E) n (fun j=>decide (j=s)) s=true:=by
   intro n
   induction n with
   | zero=>simp [iter]
   | succ n ih=>exact sprB_mono E ih
  have hst:=stab hE (fun j=>decide (j=s))
  have hcl:∀ e∈E,iter (sprB E) N (fun j=>decide (j=s)) e.b=true→iter (sprB E) N (fun j=>decide (j=s)) e.a=true:=by
   intro e he hb
   have:=sprB_edge E he hb
   rwa [hst] at this
  have key:∀ {i j:Nat},Cn E i j→iter (sprB E) N (fun j=>decide (j=s)) j=true→iter (sprB E) N (fun j=>decide (j=s)) i=true:=by
   intro i j h
   induction h with
   | refl=>exact fun h=>h
   | step he _ ih=>exact fun h=>hcl _ he (ih h)
  exact key h (hmono N)
def pull (κ:Nat→Int) (f:Nat→Nat) (e:Ed):Nat→Nat:=setF f e.a (if κ (f e.b) < κ (f e.a) then f e.b else f e.a)
def rndR (κ:Nat→Int) (E:List Ed) (f:Nat→Nat):Nat→Nat:=E.foldl (pull κ) f
theorem pull_thr (κ:Nat→Int) (f:Nat→Nat) (e:Ed) (x:Int):(fun i=>decide (κ (pull κ f e i)≤x))=bpE (fun i=>decide (κ (f i)≤x)) e:=by
 funext i
 unfold pull bpE setF
 by_cases h:i=e.a
 ·subst h
  simp only [if_true]
  split <;> (rw [Bool.eq_iff_iff]; simp; omega)
 ·simp only [if_neg h]
theorem rndR_thr (κ:Nat→Int) (x:Int):∀ (E:List Ed) (f:Nat→Nat),(fun i=>decide (κ (rndR κ E f i)≤x))=sprB E (fun i=>decide (κ (f i)≤x)):=by
 intro E
 induction E with
 | nil=>intro f; rfl
 | cons e E ih =>
  intro f
  show (fun i=>decide (κ (rndR κ E (pull κ f e) i)≤x))=sprB E (bpE _ e)
  rw [ih,pull_thr]
theorem iterR_thr (κ:Nat→Int) (x:Int) (E:List Ed) (f:Nat→Nat):∀ n,(fun i=>decide (κ (iter (rndR κ E) n f i)≤x))=iter (sprB E) n (fun i=>decide (κ (f i)≤x)):=by
 intro n
 induction n with
 | zero=>rfl
 | succ n ih =>
  show (fun i=>decide (κ (rndR κ E (iter (rndR κ E) n f) i)≤x))=sprB E (iter (sprB E) n _)
  rw [rndR_thr,ih]
def roots (κ:Nat→Int) (E:List Ed) (N:Nat):Nat→Nat:=iter (rndR κ E) N id
theorem roots_le {κ:Nat→Int} {E:List Ed} {N:Nat} (i:Nat):κ (roots κ E N i)≤κ i:=by
 have h:=congrFun (iterR_thr κ (κ i) E id N) i
 have h0:∀ n,iter (sprB E) n (fun j=>decide (κ (id j)≤κ i)) i=true:=by
  intro n
  induction n with
  | zero=>simp [iter]
  | succ n ih=>exact sprB_mono E ih
 rw [h0] at h
 exact of_decide_eq_true h
theorem roots_edge {κ:Nat→Int} {E:List Ed} {N:Nat} (hE:∀ e∈E,e.a < N) {e:Ed} (he:e∈E):κ (roots κ E N e.a)≤κ (roots κ E N e.b):=by
 have h:=iterR_thr κ (κ (roots κ E N e.b)) E id N
 have hst:=stab hE (fun i=>decide (κ (id i)≤κ (roots κ E N e.b)))
 rw [← h] at hst
 have hb:(fun i=>decide (κ (iter (rndR κ E) N id i)≤κ (roots κ E N e.b))) e.b=true:=by simp [roots]
 have:=sprB_edge E (S:=fun i=>decide (κ (iter (rndR κ E) N id i)≤κ (roots κ E N e.b))) he hb
 rw [hst] at this
 exact of_decide_eq_true this
theorem roots_cn {κ:Nat→Int} {E:List Ed} {N:Nat} (i:Nat):Cn E i (roots κ E N i):=by
 have key:∀ (E':List Ed),(∀ e∈E',e∈E)→∀ f:Nat→Nat,(∀ i,Cn E i (f i))→∀ i,Cn E i (rndR κ E' f i):=by
  intro E'
  induction E' with
  | nil=>intro _ f h; exact h
  | cons e E' ih =>
   intro hm f h
   refine ih (fun e he=>hm e (by simp [he])) (pull κ f e) ?_
   intro i
   unfold pull setF
   split
   ·rename_i h'
    subst h'
    split
    ·exact .step (hm e (by simp)) (h _)
    ·exact h _
   ·exact h _
 have:∀ n i,Cn E i (iter (rndR κ E) n id i):=by
  intro n
  induction n with
  | zero=>intro i; exact .refl _
  | succ n ih=>exact key E (fun _ h=>h) _ ih
 exact this N i
theorem Cn.lt {E:List Ed} {N:Nat} (hE:∀ e∈E,e.a < N∧e.b < N) {i j:Nat} (h:Cn E i j) (hi:i < N):j < N:=by
 induction h with
 | refl=>exact hi
 | step he _ ih=>exact ih (hE _ he).2
theorem roots_same {κ:Nat→Int} {E:List Ed} {N:Nat} (hE:∀ e∈E,e.a < N∧e.b < N) (hs:symE E) (hκ:∀ i j,i < N→j < N→κ i=κ j→i=j):∀ e∈E,roots κ E N e.a=roots κ E N e.b:=by
 intro e he
 have h1:=roots_edge (κ:=κ) (fun e he=>(hE e he).1) he
 have h2:=roots_edge (κ:=κ) (e:=⟨e.b,e.a,e.w⟩) (fun e he=>(hE e he).1) (hs e he)
 have:=(roots_cn (κ:=κ) (E:=E) (N:=N) e.a).lt hE (hE e he).1
 have:=(roots_cn (κ:=κ) (E:=E) (N:=N) e.b).lt hE (hE e he).2
 exact hκ _ _ (by assumption) (by assumption) (by simp only at h1 h2; omega)
def rlx (d:Nat→Int) (e:Ed):Nat→Int:=setF d e.a (min (d e.a) (d e.b+e.w))
def rndD (E:List Ed) (d:Nat→Int):Nat→Int:=E.foldl rlx d
theorem rlx_le {d:Nat→Int} {e:Ed} (i:Nat):rlx d e i≤d i:=by
 unfold rlx setF
 split
 ·rename_i h; subst h; omega
 ·omega
theorem rndD_le:∀ (E:List Ed) {d:Nat→Int} (i:Nat),rndD E d i≤d i:=by
 intro E
 induction E with
 | nil=>intro d i; exact Int.le_refl _
 | cons e E ih=>intro d i; exact Int.le_trans (ih i) (rlx_le i)
theorem rndD_edge:∀ (E:List Ed) {d:Nat→Int} {e:Ed},e∈E→rndD E d e.a≤d e.b+e.w:=by
 intro E
 induction E with
 | nil=>intro d e h; cases h
 | cons e' E ih =>
  intro d e h
  cases h with
  | head=>refine Int.le_trans (rndD_le E e'.a) ?_; unfold rlx; rw [setF_same]; omega
  | tail _ h=>refine Int.le_trans (ih h) ?_; have:=rlx_le (d:=d) (e:=e') e.b; omega
theorem rndD_inv {E0:List Ed} {d0:Nat→Int}:∀ (E:List Ed),(∀ e∈E,e∈E0∧e.a≠e.b)→∀ {d:Nat→Int},(∀ i,d i=d0 i∨∃ e∈E0,e.a=i∧d e.b+e.w≤d i)→∀ i,rndD E d i=d0 i∨∃ e∈E0,e.a=i∧rndD E d e.b+e.w≤rndD E d i:=by
 intro E
 induction E with
 | nil=>intro _ d h; exact h
 | cons e' E ih =>
  intro hm d h
  refine ih (fun e he=>hm e (by simp [he])) (d:=rlx d e') ?_
  intro i
  have hle:=rlx_le (d:=d) (e:=e')
  by_cases hi:i=e'.a
  ·subst hi
   have hv:rlx d e' e'.a=min (d e'.a) (d e'.b+e'.w):=by unfold rlx; rw [setF_same]
   by_cases hm':d e'.b+e'.w < d e'.a
   ·right
    refine ⟨e',(hm e' (by simp)).1,rfl,?_⟩
    have:=hle e'.b
    omega
   ·rcases h e'.a with h1|⟨e,he,h1,h2⟩
    ·left; omega
    ·right; refine ⟨e,he,h1,?_⟩; have:=hle e.b; omega
  ·have hv:rlx d e' i=d i:=by unfold rlx; rw [setF_ne hi]
   rcases h i with h1|⟨e,he,h1,h2⟩
   ·left; omega
   ·right; refine ⟨e,he,h1,?_⟩; have:=hle e.b; omega
theorem rndD_out {N:Nat}:∀ (E:List Ed) (hE:∀ e∈E,e.a < N) {d:Nat→Int} {i:Nat},N≤i→rndD E d i=d i:=by
 intro E
 induction E with
 | nil=>intro _ d i h; rfl
 | cons e E ih =>
  intro hE d i h
  have h1:=hE e (by simp)
  have:=ih (fun e he=>hE e (by simp [he])) (d:=rlx d e) h
  show rndD E (rlx d e) i=_
  rw [this]
  unfold rlx
  rw [setF_ne (by omega)]
theorem rndD_nn:∀ (E:List Ed),(∀ e∈E,1≤e.w)→∀ {d:Nat→Int},(∀ i,0≤d i)→∀ i,0≤rndD E d i:=by
 intro E
 induction E with
 | nil=>intro _ d h; exact h
 | cons e E ih =>
  intro hw d h
  refine ih (fun e he=>hw e (by simp [he])) ?_
  intro i
  unfold rlx setF
  have h1:=hw e (by simp)
  have h2:=h e.b
  have h3:=h e.a
  split
  ·omega
  ·exact h i
def sumN (N:Nat) (d:Nat→Int):Nat:=((List.range N).map fun i=>(d i).toNat).foldl (· + ·) 0
theorem sumN_succ (N:Nat) (d:Nat→Int):sumN (N+1) d=sumN N d+(d N).toNat:=by simp [sumN,List.range_succ]
theorem sumN_le {N:Nat} {d d':Nat→Int} (h:∀ i,d i≤d' i):sumN N d≤sumN N d':=by
 induction N with
 | zero=>simp [sumN]
 | succ N ih=>rw [sumN_succ,sumN_succ]; have:=h N; omega
theorem sumN_lt {N:Nat} {d d':Nat→Int} (h:∀ i,d i≤d' i) {j:Nat} (hj:j < N) (h0:0≤d j) (hlt:d j < d' j):sumN N d < sumN N d':=by
 induction N with
 | zero=>omega
 | succ N ih =>
  rw [sumN_succ,sumN_succ]
  by_cases hjn:j=N
  ·subst hjn
   have:=sumN_le (N:=j) h
   omega
  ·have:=ih (by omega)
   have:=h N
   omega
section
variable {N:Nat} {E:List Ed} (hE:∀ e∈E,e.a < N∧e.b < N∧e.a≠e.b∧1≤e.w) {d0:Nat→Int} (h0:∀ i,0≤d0 i)
include hE h0
theorem iterD_nn:∀ n i,0≤iter (rndD E) n d0 i:=by
 intro n
 induction n with
 | zero=>exact h0
 | succ n ih=>exact rndD_nn E (fun e he=>(hE e he).2.2.2) ih
theorem limit:∃ k,rndD E (iter (rndD E) k d0)=iter (rndD E) k d0:=by
 have key:∀ (m k:Nat),sumN N (iter (rndD E) k d0)≤m→∃ k,rndD E (iter (rndD E) k d0)=iter (rndD E) k d0:=by
  intro m
  induction m with
  | zero =>
   intro k hk
   refine ⟨k,funext fun j=>Classical.byContradiction fun hj=>?_⟩
   have hjN:j < N:=Nat.lt_of_not_le fun hle=>hj (rndD_out E (fun e he=>(hE e he).1) hle)
   have:=sumN_lt (N:=N) (fun i=>rndD_le E (d:=iter (rndD E) k d0) i) hjN (rndD_nn E (fun e he=>(hE e he).2.2.2) (iterD_nn hE h0 k) j) (by have:=rndD_le E (d:=iter (rndD E) k d0) j; omega)
   omega
  | succ m ih =>
   intro k hk
   by_cases hf:rndD E (iter (rndD E) k d0)=iter (rndD E) k d0
   ·exact ⟨k,hf⟩
   ·have:∃ j,rndD E (iter (rndD E) k d0) j≠iter (rndD E) k d0 j:=Classical.byContradiction fun hn=>hf (funext fun j=>Classical.byContradiction fun hj=>hn ⟨j,hj⟩)
    obtain ⟨j,hj⟩:=this
    have hjN:j < N:=Nat.lt_of_not_le fun hle=>hj (rndD_out E (fun e he=>(hE e he).1) hle)
    have:=sumN_lt (N:=N) (fun i=>rndD_le E (d:=iter (rndD E) k d0) i) hjN (rndD_nn E (fun e he=>(hE e he).2.2.2) (iterD_nn hE h0 k) j) (by have:=rndD_le E (d:=iter (rndD E) k d0) j; omega)
    exact ih (k+1) (by show sumN N (rndD E (iter (rndD E) k d0))≤m; omega)
 exact key _ 0 (Nat.le_refl _)
omit hE h0 in
theorem iterD_anti:∀ (m n:Nat) (i:Nat),n≤m→iter (rndD E) m d0 i≤iter (rndD E) n d0 i:=by
 intro m
 induction m with
 | zero=>intro n i h; have:n=0:=by omega
         subst this; exact Int.le_refl _
 | succ m ih =>
  intro n i h
  by_cases hn:n=m+1
  ·subst hn; exact Int.le_refl _
  ·exact Int.le_trans (rndD_le E i) (ih n i (by omega))
theorem settled:∃ L:Nat→Int,(∀ i,i < N→iter (rndD E) N d0 i=L i)∧(∀ i,0≤L i∧L i≤d0 i)∧(∀ e∈E,L e.a≤L e.b+e.w)∧(∀ i,L i=d0 i∨∃ e∈E,e.a=i∧L i=L e.b+e.w):=by
 obtain ⟨K,hK⟩:=limit hE h0
 refine ⟨iter (rndD E) K d0,?_,fun i=>⟨iterD_nn hE h0 K i,iterD_anti K 0 i (by omega)⟩,?_,?_⟩
 rotate_left
 ·intro e he
  have:=rndD_edge E (d:=iter (rndD E) K d0) he
  rwa [hK] at this
 ·have inv:∀ n i,iter (rndD E) n d0 i=d0 i∨∃ e∈E,e.a=i∧iter (rndD E) n d0 e.b+e.w≤iter (rndD E) n d0 i:=by
   intro n
   induction n with
   | zero=>intro i; exact .inl rfl
   | succ n ih=>exact rndD_inv E (fun e he=>⟨he,(hE e he).2.2.1⟩) ih
  intro i
  rcases inv K i with h|⟨e,he,h1,h2⟩
  ·exact .inl h
  ·right
   refine ⟨e,he,h1,?_⟩
   have:=rndD_edge E (d:=iter (rndD E) K d0) he
   rw [hK,h1] at this
   omega
 ·have hge:∀ n i,iter (rndD E) K d0 i≤iter (rndD E) n d0 i:=by
   intro n i
   by_cases hn:n≤K
   ·exact iterD_anti K n i hn
   ·have:=iter_fix hK (n - K)
    rw [show K+(n - K)=n by omega] at this
    rw [this]; exact Int.le_refl _
  have inv:∀ n i,iter (rndD E) n d0 i=d0 i∨∃ e∈E,e.a=i∧iter (rndD E) n d0 e.b+e.w≤iter (rndD E) n d0 i:=by
   intro n
   induction n with
   | zero=>intro i; exact .inl rfl
   | succ n ih=>exact rndD_inv E (fun e he=>⟨he,(hE e he).2.2.1⟩) ih
  have main:∀ n i,i < N→cnt N (fun j=>decide (iter (rndD E) K d0 j < iter (rndD E) K d0 i))≤n→iter (rndD E) n d0 i=iter (rndD E) K d0 i:=by
   intro n
   induction n with
   | zero =>
    intro i hi hc
    rcases inv K i with h|⟨e,he,h1,h2⟩
    ·exact h.symm
    ·exfalso
     have hw:=(hE e he).2.2.2
     have:=cnt_lt (N:=N) (S:=fun _=>false) (S':=fun j=>decide (iter (rndD E) K d0 j < iter (rndD E) K d0 i)) (fun _ _ h=>by simp at h) (hE e he).2.1 rfl (decide_eq_true (by omega))
     omega
   | succ n ih =>
    intro i hi hc
    have hg:=hge (n+1) i
    rcases inv K i with h|⟨e,he,h1,h2⟩
    ·have h4:iter (rndD E) (n+1) d0 i≤d0 i:=iterD_anti (E:=E) (d0:=d0) (n+1) 0 i (by omega)
     omega
    ·have hw:=(hE e he).2.2.2
     have hlt:cnt N (fun j=>decide (iter (rndD E) K d0 j < iter (rndD E) K d0 e.b))+1≤cnt N (fun j=>decide (iter (rndD E) K d0 j < iter (rndD E) K d0 i)) :=
      cnt_lt (fun j _ hj=>by have:=of_decide_eq_true hj; exact decide_eq_true (by omega)) (hE e he).2.1 (decide_eq_false (by omega)) (decide_eq_true (by omega))
     have hb:=ih e.b (hE e he).2.1 (by omega)
     have:=rndD_edge E (d:=iter (rndD E) n d0) he
     rw [h1,hb] at this
     have h3:iter (rndD E) (n+1) d0 i=rndD E (iter (rndD E) n d0) i:=rfl
     omega
  intro i hi
  exact main N i hi (cnt_le _ _)
end
structure Dst (κ:Nat→Int) (E:List Ed) (N:Nat) (F:Nat→Nat) (D:Nat→Int):Prop where
 edge:∀ e∈E,D e.a≤D e.b+e.w
 top:∀ i,i < N→F i=i→D i=0
 nn:∀ i,i < N→0≤D i
 par:∀ i,i < N→F i≠i→∃ e∈E,e.a=i∧D i=D e.b+e.w
theorem Dst.le {κ:Nat→Int} {E:List Ed} {N:Nat} {F:Nat→Nat} {D D':Nat→Int} (hE:∀ e∈E,e.a < N∧e.b < N∧e.a≠e.b∧1≤e.w) (h:Dst κ E N F D) (h':Dst κ E N F D'):∀ (n i:Nat),i < N→D' i≤n→D i≤D' i:=by
 intro n
 induction n with
 | zero =>
  intro i hi hn
  by_cases hF:F i=i
  ·rw [h.top i hi hF,h'.top i hi hF]; exact Int.le_refl _
  ·obtain ⟨e,he,h1,h2⟩:=h'.par i hi hF
   have:=h'.nn e.b (hE e he).2.1
   have:=(hE e he).2.2.2
   omega
 | succ n ih =>
  intro i hi hn
  by_cases hF:F i=i
  ·rw [h.top i hi hF,h'.top i hi hF]; exact Int.le_refl _
  ·obtain ⟨e,he,h1,h2⟩:=h'.par i hi hF
   have h3:=(hE e he).2.2.2
   have h4:=ih e.b (hE e he).2.1 (by omega)
   have h5:=h.edge e he
   rw [h1] at h5
   omega
theorem Dst.eq {κ:Nat→Int} {E:List Ed} {N:Nat} {F:Nat→Nat} {D D':Nat→Int} (hE:∀ e∈E,e.a < N∧e.b < N∧e.a≠e.b∧1≤e.w) (h:Dst κ E N F D) (h':Dst κ E N F D') (i:Nat) (hi:i < N):D i=D' i:=by
 have h1:=h.le hE h' (D' i).toNat i hi (by omega)
 have h2:=h'.le hE h (D i).toNat i hi (by omega)
 omega
theorem dst_ok {κ:Nat→Int} {E:List Ed} {N:Nat} {W far:Int} (hE:∀ e∈E,e.a < N∧e.b < N∧e.a≠e.b∧1≤e.w) (hW:∀ e∈E,e.w≤W) (hW0:0≤W) (hf0:0 < far) (hfar:W*((N:Int) - 1) < far) (hs:symE E) (hκ:∀ i j,i < N→j < N→κ i=κ j→i=j) :
  Dst κ E N (roots κ E N) (iter (rndD E) N (fun i=>if roots κ E N i=i then 0 else far))∧∀ i,i < N→iter (rndD E) N (fun i=>if roots κ E N i=i then 0 else far) i≤W*((N:Int) - 1):=by
 have hsame:=roots_same (κ:=κ) (fun e he=>⟨(hE e he).1,(hE e he).2.1⟩) hs hκ
 obtain ⟨L,hL,hb,he,hp⟩:=settled (N:=N) hE (d0:=fun i=>if roots κ E N i=i then 0 else far) (fun i=>by split <;> omega)
 have lvlt:∀ i j,i < N→j < N→L i < L j→cnt N (fun k=>decide (L k < L i))+1≤cnt N (fun k=>decide (L k < L j)):=fun i j hi hj h =>
  cnt_lt (fun k _ hk=>by have:=of_decide_eq_true hk; exact decide_eq_true (by omega)) hi (decide_eq_false (by omega)) (decide_eq_true h)
 have lvN:∀ i,i < N→cnt N (fun k=>decide (L k < L i))+1≤N:=by
  intro i hi
  have:=cnt_lt (N:=N) (S:=fun k=>decide (L k < L i)) (S':=fun _=>true) (fun _ _ _=>rfl) hi (decide_eq_false (by omega)) rfl
  have:=cnt_le N (fun _=>true)
  omega
 have bound:∀ (n j:Nat),j < N→cnt N (fun k=>decide (L k < L j))≤n→L j < far→L j≤W*(cnt N (fun k=>decide (L k < L j)):Nat):=by
  intro n
  induction n with
  | zero =>
   intro j hj hc hl
   rcases hp j with h|⟨e,hee,h1,h2⟩
   ·have:L j=0:=by
     have h':L j=if roots κ E N j=j then 0 else far:=h
     split at h' <;> omega
    rw [this]
    exact Int.mul_nonneg hW0 (by omega)
   ·exfalso
    have:=lvlt e.b j (hE e hee).2.1 hj (by have:=(hE e hee).2.2.2; omega)
    omega
  | succ n ih =>
   intro j hj hc hl
   rcases hp j with h|⟨e,hee,h1,h2⟩
   ·have:L j=0:=by
     have h':L j=if roots κ E N j=j then 0 else far:=h
     split at h' <;> omega
    rw [this]
    exact Int.mul_nonneg hW0 (by omega)
   ·have hw:=(hE e hee).2.2.2
    have hlt:=lvlt e.b j (hE e hee).2.1 hj (by omega)
    have h3:=ih e.b (hE e hee).2.1 (by omega) (by omega)
    have h4:=hW e hee
    have h5:W*(cnt N (fun k=>decide (L k < L e.b)):Nat)+W≤W*(cnt N (fun k=>decide (L k < L j)):Nat):=by
     have:W*((cnt N (fun k=>decide (L k < L e.b))+1:Nat):Int)≤W*(cnt N (fun k=>decide (L k < L j)):Nat):=Int.mul_le_mul_of_nonneg_left (by omega) hW0
     rw [Int.natCast_add,Int.mul_add] at this
     simpa using this
    omega
 have hroot:∀ i,roots κ E N (roots κ E N i)=roots κ E N i:=fun i=>((roots_cn (κ:=κ) (E:=E) (N:=N) i).const (f:=roots κ E N) hsame).symm
 have hall:∀ i,i < N→L i < far:=by
  intro i hi
  refine Classical.byContradiction fun hn=>?_
  have hr:L (roots κ E N i) < far:=by
   have:=(hb (roots κ E N i)).2
   simp only [hroot,if_true] at this
   omega
  obtain ⟨e,hee,h1,h2⟩:=(roots_cn (κ:=κ) (E:=E) (N:=N) i).cross (P:=fun j=>L j < far) hn hr
  have h3:=he e hee
  have h4:=bound _ e.b (hE e hee).2.1 (Nat.le_refl _) h2
  have h5:=lvlt e.b e.a (hE e hee).2.1 (hE e hee).1 (by omega)
  have h6:=lvN e.a (hE e hee).1
  have h7:=hW e hee
  have h8:W*(cnt N (fun k=>decide (L k < L e.b)):Nat)+W≤W*((N:Int) - 1):=by
   have:W*((cnt N (fun k=>decide (L k < L e.b))+1:Nat):Int)≤W*((N:Int) - 1):=Int.mul_le_mul_of_nonneg_left (by omega) hW0
   rw [Int.natCast_add,Int.mul_add] at this
   simpa using this
  omega
 refine ⟨⟨?_,?_,?_,?_⟩,?_⟩
 ·intro e hee
  rw [hL _ (hE e hee).1,hL _ (hE e hee).2.1]
  exact he e hee
 ·intro i hi hF
  rw [hL i hi]
  have:=hb i
  simp only [hF,if_true] at this
  omega
 ·intro i hi
  rw [hL i hi]
  exact (hb i).1
 ·intro i hi hF
  rcases hp i with h|⟨e,hee,h1,h2⟩
  ·have h':L i=if roots κ E N i=i then 0 else far:=h
   rw [if_neg hF] at h'
   have:=hall i hi
   omega
  ·refine ⟨e,hee,h1,?_⟩
   rw [hL i hi,hL _ (hE e hee).2.1,h2]
 ·intro i hi
  rw [hL i hi]
  have h1:=bound _ i hi (Nat.le_refl _) (hall i hi)
  have h2:=lvN i hi
  have h3:W*((cnt N (fun k=>decide (L k < L i)):Nat):Int)≤W*((N:Int) - 1):=Int.mul_le_mul_of_nonneg_left (by omega) hW0
  omega
end Go.Proofs.Ytbibdnlbpjnieaa
namespace Go.Proofs.Ytbibdnlbpjnieaa
open Go Go.Abs
def kE (cut:Nat→Bool) (i:Nat) (l:Lk):List Ed:=if cut i=true then [] else [⟨l.a.toNat,l.b.toNat,0⟩,⟨l.b.toNat,l.a.toNat,0⟩]
def kEs (cut:Nat→Bool):Nat→List Lk→List Ed
 | _,[]=>[]
 | i,l::ls=>kE cut i l++kEs cut (i+1) ls
def RelS (N:Nat) (r:List Bool) (S:Nat→Bool):Prop:=r.length=N∧∀ n,n < N→r[n]? = some (S n)
theorem rStep_rel {N:Nat} {cut:Nat→Bool} {i:Nat} {r:List Bool} {S:Nat→Bool} {l:Lk} (h:RelS N r S) (ha:l.a.toNat < N) (hb:l.b.toNat < N) (hab:l.a.toNat≠l.b.toNat):RelS N (rStep cut i r l) (sprB (kE cut i l) S):=by
 obtain ⟨h1,h2⟩:=h
 have ea:rB r l.a=S l.a.toNat:=by rw [rB,h2 _ ha]; rfl
 have eb:rB r l.b=S l.b.toNat:=by rw [rB,h2 _ hb]; rfl
 unfold rStep kE
 rw [ea,eb]
 generalize l.a.toNat=A at *
 generalize l.b.toNat=B at *
 cases hc:cut i with
 | true=>simp only [Bool.not_true,Bool.false_and,Bool.false_eq_true,if_false,if_true]; exact ⟨h1,h2⟩
 | false =>
  simp only [Bool.not_false,Bool.true_and,Bool.false_eq_true,if_false]
  have hv:∀ n,sprB [⟨A,B,0⟩,⟨B,A,0⟩] S n=if n=A∨n=B then (S A || S B) else S n:=by
   intro n
   show bpE (bpE S ⟨A,B,0⟩) ⟨B,A,0⟩ n=_
   unfold bpE
   by_cases hn:n=B
   ·subst hn
    rw [if_pos (.inr rfl),setF_same]
    simp only [setF_same]
    rw [setF_ne (fun h=>hab h.symm)]
    cases S A <;> cases S n <;> rfl
   ·rw [setF_ne hn]
    by_cases hn2:n=A
    ·subst hn2; rw [if_pos (.inl rfl),setF_same]
    ·rw [if_neg (fun h=>h.elim hn2 hn),setF_ne hn2]
  refine ⟨?_,fun n hn=>?_⟩
  ·split <;> simp [h1]
  ·rw [hv n]
   by_cases hq:(S A != S B)=true
   ·rw [if_pos hq]
    have hor:(S A || S B)=true:=by revert hq; cases S A <;> cases S B <;> decide
    by_cases hn2:n=B
    ·subst hn2; rw [if_pos (.inr rfl),List.getElem?_set_self (by simp; omega),hor]
    ·rw [List.getElem?_set_ne (fun h=>hn2 h.symm)]
     by_cases hn3:n=A
     ·subst hn3; rw [if_pos (.inl rfl),List.getElem?_set_self (by omega),hor]
     ·rw [if_neg (fun h=>h.elim hn3 hn2),List.getElem?_set_ne (fun h=>hn3 h.symm)]
      exact h2 n hn
   ·rw [if_neg hq,h2 n hn]
    have heq:S A=S B:=by revert hq; cases S A <;> cases S B <;> decide
    by_cases hn2:n=A∨n=B
    ·rw [if_pos hn2]
     rcases hn2 with rfl|rfl
     ·rw [heq]; simp
     ·rw [heq]; simp
    ·rw [if_neg hn2]
theorem rRound_rel {N:Nat} {cut:Nat→Bool}:∀ (ls:List Lk) (i:Nat) (r:List Bool) (S:Nat→Bool),(∀ l∈ls,l.a.toNat < N∧l.b.toNat < N∧l.a.toNat≠l.b.toNat)→RelS N r S→RelS N (rRound cut i ls r) (sprB (kEs cut i ls) S):=by
 intro ls
 induction ls with
 | nil=>intro i r S _ h; exact h
 | cons l ls ih =>
  intro i r S hv h
  have h0:=hv l (by simp)
  have h1:=rStep_rel (cut:=cut) (i:=i) h h0.1 h0.2.1 h0.2.2
  have h2:=ih (i+1) _ _ (fun m hm=>hv m (by simp [hm])) h1
  rw [rRound,kEs,sprB,List.foldl_append]
  exact h2
theorem iter_comm {σ:Type} (f:σ→σ):∀ (n:Nat) (s:σ),iter f n (f s)=f (iter f n s):=by
 intro n
 induction n with
 | zero=>intro s; rfl
 | succ n ih=>intro s; show f (iter f n (f s))=_; rw [ih]; rfl
theorem rIter_rel {N:Nat} {cut:Nat→Bool} {ls:List Lk} (hv:∀ l∈ls,l.a.toNat < N∧l.b.toNat < N∧l.a.toNat≠l.b.toNat):∀ (n:Nat) (r:List Bool) (S:Nat→Bool),RelS N r S→RelS N (rIter cut ls n r) (iter (sprB (kEs cut 0 ls)) n S):=by
 intro n
 induction n with
 | zero=>intro r S h; exact h
 | succ n ih =>
  intro r S h
  have:=ih _ _ (rRound_rel (cut:=cut) ls 0 r S hv h)
  rw [rIter]
  rwa [iter_comm] at this
theorem kEs_mem {cut:Nat→Bool} {e:Ed}:∀ (ls:List Lk) (i:Nat),e∈kEs cut i ls↔∃ j l,ls[j]? = some l∧cut (i+j)=false∧(e=⟨l.a.toNat,l.b.toNat,0⟩∨e=⟨l.b.toNat,l.a.toNat,0⟩):=by
 intro ls
 induction ls with
 | nil=>intro i; simp [kEs]
 | cons l ls ih =>
  intro i
  rw [kEs,List.mem_append,ih]
  constructor
  ·rintro (h|⟨j,m,h1,h2,h3⟩)
   ·unfold kE at h
    split at h
    ·cases h
    ·rename_i hc
     refine ⟨0,l,rfl,by simpa using hc,by simpa using h⟩
   ·exact ⟨j+1,m,by simpa using h1,by rw [← h2]; congr 1; omega,h3⟩
  ·rintro ⟨j,m,h1,h2,h3⟩
   cases j with
   | zero =>
    left
    simp only [List.getElem?_cons_zero,Option.some.injEq] at h1
    subst h1
    have h2':cut i=false:=h2
    rw [kE,if_neg (by rw [h2']; simp)]
    simpa using h3
   | succ j=>exact .inr ⟨j,m,by simpa using h1,by rw [← h2]; congr 1; omega,h3⟩
theorem kEs_sym (cut:Nat→Bool) (ls:List Lk):∀ e∈kEs cut 0 ls,(⟨e.b,e.a,e.w⟩:Ed)∈kEs cut 0 ls:=by
 intro e he
 rw [kEs_mem] at he ⊢
 obtain ⟨j,l,h1,h2,h3⟩:=he
 refine ⟨j,l,h1,h2,?_⟩
 rcases h3 with rfl|rfl
 ·exact .inr rfl
 ·exact .inl rfl
theorem reach_spec {t:Tpo} {s:Nat} {cut:Nat→Bool} (hv:∀ l∈t.links,endsP t l) (hs:s < t.nodes.toNat) {n:Nat} (hn:n < t.nodes.toNat):(reachL t s cut)[n]? = some true↔Cn (kEs cut 0 t.links) n s:=by
 have hv2:∀ l∈t.links,l.a.toNat < t.nodes.toNat∧l.b.toNat < t.nodes.toNat∧l.a.toNat≠l.b.toNat:=fun l hl=>by
  obtain ⟨⟨h1,h2⟩,⟨h3,h4⟩,h5⟩:=hv l hl
  omega
 have h0:RelS t.nodes.toNat ((List.replicate t.nodes.toNat false).set s true) (fun j=>decide (j=s)):=by
  refine ⟨by simp,fun n hn=>?_⟩
  by_cases h:n=s
  ·subst h; rw [List.getElem?_set_self (by simpa using hn)]; simp
  ·rw [List.getElem?_set_ne (fun e=>h e.symm),List.getElem?_replicate,if_pos hn]; simp [h]
 have h1:=(rIter_rel (cut:=cut) hv2 t.nodes.toNat _ _ h0).2 n hn
 rw [reachL,h1,Option.some.injEq]
 refine reach_iff (fun e he=>?_) s n
 rw [kEs_mem] at he
 obtain ⟨j,l,q1,q2,q3⟩:=he
 have:=hv2 l (List.mem_of_getElem? q1)
 rcases q3 with rfl|rfl
 ·exact this.1
 ·exact this.2.1
end Go.Proofs.Ytbibdnlbpjnieaa
