/- Part 23 of the proof of TreeRecovers. -/
import Derived.Test.YtbibdnlbpjnieaaR22
set_option linter.all false
set_option maxRecDepth 100000
set_option maxHeartbeats 4000000
namespace Go.Proofs.Ytbibdnlbpjnieaa
open Go Go.Abs
def fgB (b:Br) (i:Nat):Bx:=⟨false,true,true,true,putB b (b.heard.set i zH)⟩
def fgQ (w:Nw) (j n:Nat) (s:List Bx × Nat) (i:Nat) (p:Nat):List Bx × Nat:=if p / 2=j then (s.1.set n (fgB (s.1[n]?.getD zBx).b i),w.bs.length) else s
def fgN (w:Nw) (j:Nat) (s:List Bx × Nat) (n:Nat):List Bx × Nat:=(List.range (trunkL w.t n).length).foldl (fun s i=>fgQ w j n s i ((trunkL w.t n)[i]?.getD 0)) s
theorem okH_no:okH zH:=⟨fun h=>((by cases h)),fun _=>rfl⟩
theorem VB.forget {w:Nw} {n:Nat} {b:Br} (h:VB w n b) (i:Nat):VB w n (putB b (b.heard.set i zH)):=by
 refine h.put (by simp) fun x hx=>?_
 rcases List.mem_or_eq_of_mem_set hx with h1|rfl
 ·exact okB_all h.ok x h1
 ·exact okH_no
theorem fgQ_ok {w:Nw} {j n i p:Nat} {s:List Bx × Nat} (h:vBs w s.1) (h2:s.2≤w.bs.length) (hst:stA w.t n=false):vBs w (fgQ w j n s i p).1∧(fgQ w j n s i p).2≤w.bs.length:=by
 unfold fgQ
 split
 ·refine ⟨⟨by simpa using h.1,fun m x hx hs=>?_⟩,Nat.le_refl _⟩
  simp only [List.getElem?_set] at hx
  split at hx
  ·rename_i hm
   split at hx
   ·rename_i hlt
    obtain rfl:=Option.some.inj hx
    subst hm
    obtain ⟨y,hy⟩:∃ y,s.1[n]? = some y:=⟨s.1[n]'hlt,by simp [hlt]⟩
    obtain ⟨_,hv⟩:=h.2 n y hy hst
    rw [hy]
    exact ⟨rfl,hv.forget _⟩
   ·cases hx
  ·exact h.2 m x hx hs
 ·exact ⟨h,h2⟩
theorem fgN_ok {w:Nw} {j n:Nat} {s:List Bx × Nat} (h:vBs w s.1) (h2:s.2≤w.bs.length) (hst:stA w.t n=false):vBs w (fgN w j s n).1∧(fgN w j s n).2≤w.bs.length:=by
 unfold fgN
 generalize (trunkL w.t n).length=k
 induction k with
 | zero=>exact ⟨h,h2⟩
 | succ k ih =>
  rw [List.range_succ,List.foldl_append,List.foldl_cons,List.foldl_nil]
  exact fgQ_ok ih.1 ih.2 hst
noncomputable def lpCu (rf:Code × Code) (E:FEnv) (busy:Bool):AObj:=.loop 13 (lpEnv 77 (tidyF (some [3,4,5,7]) E)) [39,40] rf.1 rf.2 busy none
noncomputable def hpCu (w:Nw) (j:Nat) (rf:Code × Code) (E:FEnv) (busy:Bool) (s:List Bx × Nat):Heap :=
 [.row 6 [.t zN6] 0,.row 1 [.t (I 0)] 0,.row 6 [.agg (nwA 3 5 w)] 1,.row 1 (((w.down.set j true).map B).map .t) w.down.length,.row 6 [.agg (nwA 3 5 w)] 1,bsRow s.1 s.2,.row 6 [.agg (nwA 3 5 w)] 1,.row 6 [.agg (nwA 3 5 w)] 0,lpCu rf E busy]
theorem lpCu_frz (j:Nat) (rf:Code × Code) (E:FEnv) (hE:E 3=.t (.ip [I (j:Nat)])∧E 4=.ref 0 1 0 0∧E 5=.ref 1 1 0 0∧E 7=.ref 6 1 0 0) (busy:Bool) (h:Heap) (q:Nat) (hq:9≤q):frzObj h (fromB q) (lpCu rf E busy)=some (lpCu rf E busy):=by
 have f0:decide (q≤0)=false:=decide_eq_false (by omega)
 have f1:decide (q≤1)=false:=decide_eq_false (by omega)
 have f7:decide (q≤6)=false:=decide_eq_false (by omega)
 rw [lpCu,frz_loop]
 simp only [go_sem,hE,f0,f1,f7]
theorem hpCu_frz (w:Nw) (j:Nat) (rf:Code × Code) (E:FEnv) (hE:E 3=.t (.ip [I (j:Nat)])∧E 4=.ref 0 1 0 0∧E 5=.ref 1 1 0 0∧E 7=.ref 6 1 0 0) (busy:Bool) (s:List Bx × Nat) (h:Heap) (q:Nat) (hq:9≤q):mapO (frzObj h (fromB q)) (hpCu w j rf E busy s)=some (hpCu w j rf E busy s):=by
 have f4:decide (q≤3)=false:=decide_eq_false (by omega)
 have f6:decide (q≤5)=false:=decide_eq_false (by omega)
 have a1:avoidAll (fromB q) [.agg (nwA 3 5 w)]=true:=by simp [nwA,avoidAll,avoid,fromB,f4,f6]
 have a4:∀ x:T,avoidAll (fromB q) [.t x]=true:=fun x=>by simp [avoidAll,avoid]
 simp only [hpCu,bsRow,mapO,lpCu_frz j rf E hE busy h q hq,frz_mapA,frz_rowA a1,frz_rowA (a4 _)]
theorem cut_l0 (w:Nw) (hok:okT w.t=true) (hbl:(w.bs.length:Int)=w.t.nodes) (j:Nat) (rf:Code × Code) (E:FEnv) (hE:E 3=.t (.ip [I (j:Nat)])∧E 4=.ref 0 1 0 0∧E 5=.ref 1 1 0 0∧E 7=.ref 6 1 0 0) (c1 c2 c3:Bool) (b:Br) (n:Nat) (hn:n < w.bs.length) (hpo:b.ports=(trunkL w.t n).map ofN) (hnn:stA w.t n=false)
  (s:List Bx × Nat) (hv:vBs w s.1) (hmr:s.2≤w.bs.length) (dd nn:Nat) (hnn':200 < nn) (R:Xit→FEnv→Heap→Prop) (e:FEnv)
  (he:e 3=.t (.ip [I (j:Nat)])∧e 4=.ref 0 1 0 0∧e 5=.ref 1 1 0 0∧e 7=.ref 6 1 0 0∧e 8=.t (I (n:Nat))∧e 42=.t (.sl c1 1 (b.ports.map I))∧e 43=.t (I (b.ports.length:Nat))∧e 44=.t (I 0))
  (hR:∀ e,(e 3=.t (.ip [I (j:Nat)])∧e 4=.ref 0 1 0 0∧e 5=.ref 1 1 0 0∧e 7=.ref 6 1 0 0)→R (.exit 2) e (hpCu w j rf E true (fgN w j s n)++[.row 5 [.t (.agg (brC c1 c2 c3 b))] 1,.row 5 [.t (.agg (brC c1 c2 c3 b))] 1])) :
  wpIter 11 (some [3,4,5,7,8,42,43,44]) (wc Try.prog pol (ans Try.prog pol) (inl Try.prog pol (ans Try.prog pol) nn dd) nn 13 il13l0) R nn e (hpCu w j rf E true s++[.row 5 [.t (.agg (brC c1 c2 c3 b))] 1,.row 5 [.t (.agg (brC c1 c2 c3 b))] 1]):=by
 obtain ⟨z1,z2,z3⟩:=okT_size hok
 have htl:=trunk_len w.t n
 refine loop_range b.ports I (step:=fun i p s=>.go (fgQ w j n s i ((trunkL w.t n)[i]?.getD 0))) (fin:=id)
  (St:=fun i s e h=>(e 3=.t (.ip [I (j:Nat)])∧e 4=.ref 0 1 0 0∧e 5=.ref 1 1 0 0∧e 7=.ref 6 1 0 0∧e 8=.t (I (n:Nat))∧e 42=.t (.sl c1 1 (b.ports.map I))∧e 43=.t (I (b.ports.length:Nat))∧e 44=.t (I (i:Nat)))∧(vBs w s.1∧s.2≤w.bs.length)∧h=hpCu w j rf E true s++[.row 5 [.t (.agg (brC c1 c2 c3 b))] 1,.row 5 [.t (.agg (brC c1 c2 c3 b))] 1])
  (Ex:=fun s x e h=>(e 3=.t (.ip [I (j:Nat)])∧e 4=.ref 0 1 0 0∧e 5=.ref 1 1 0 0∧e 7=.ref 6 1 0 0)∧x=.exit 2∧h=hpCu w j rf E true s++[.row 5 [.t (.agg (brC c1 c2 c3 b))] 1,.row 5 [.t (.agg (brC c1 c2 c3 b))] 1]) (s:=s) (by rw [hpo]; simp; omega) ?_ ?_ (by rw [hpo]; simp; omega) ⟨he,⟨hv,hmr⟩,rfl⟩ ?_
 ·intro i p ss e hp Y R hm hi hx hget hlt hw ⟨hs',⟨hv,hmr⟩,hhp⟩ hk
  subst hhp
  have hv2:=fgQ_ok (w:=w) (j:=j) (n:=n) (i:=i) (p:=(trunkL w.t n)[i]?.getD 0) hv hmr hnn
  obtain ⟨s,mr⟩:=ss
  dsimp only at hv hmr
  simp only [ctlK_go] at hk
  obtain ⟨q,hq,hpq⟩:∃ q,(trunkL w.t n)[i]? = some q∧p=ofN q:=by
   rw [hpo,List.getElem?_map,Option.map_eq_some_iff] at hx
   obtain ⟨q,h1,h2⟩:=hx
   exact ⟨q,h1,h2.symm⟩
  subst hpq
  rw [hq] at hk hv2
  simp only [Option.getD_some] at hk hv2
  have v2:IntKind.i64.wrap (Int.tdiv (q:Nat) 2)=((q / 2:Nat):Int):=by rw [tdiv2]; exact wrap_i64 (by omega) (by have:=trunk_lt (List.mem_of_getElem? hq); omega)
  have fzl:∀ hx:Heap,frzObj hx (fromB 11) (lpCu rf E true)=some (lpCu rf E true):=fun hx=>lpCu_frz j rf E hE true hx 11 (by omega)
  have hi':i < b.ports.length:=hi
  simp only [hpCu,List.cons_append,List.nil_append,nwA,bsRow] at hk ⊢
  by_cases hqj:q / 2=j
  ·have d1:decide (((q / 2:Nat):Int)=(j:Nat))=true:=decide_eq_true (by omega)
   obtain ⟨y,hy⟩:∃ y,s[n]? = some y:=⟨s[n]'(by rw [hv.1]; exact hn),by simp [hv.1,hn]⟩
   obtain ⟨yz,yv⟩:=hv.2 n y hy hnn
   have hr:fgQ w j n (s,mr) i q=(s.set n (fgB y.b i),w.bs.length):=by rw [fgQ,if_pos hqj]; simp only [hy,Option.getD_some]
   rw [hr] at hk hv2
   obtain ⟨yz',x1,x2,x3,yb⟩:=y
   dsimp only at yz yv hk hv2
   subst yz
   have k4:=Forget_ok x1 x2 x3 yb i yv.ok (by rw [yv.ports,← hpo]; exact hi)
   have gx:((s.map encX).map AV.t)[n]? = some (.t (.agg (brC x1 x2 x3 yb))):=map_get (enc:=encX) hy
   have hsl:((s.map encX).map AV.t).length=w.bs.length:=by simp [hv.1]
   have hset:=map_set (enc:=encX) (l:=s) (i:=n) (x:=fgB yb i)
   have hex:encX (fgB yb i)=brT true true true (putB yb (yb.heard.set i zH)):=rfl
   rw [hex] at hset
   have hav:∀ (q:Nat→Bool) (y:T),avoidAll q (((s.map encX).map AV.t).set n (.t y))=true:=fun q y=>by rw [← List.map_set,av_map]
   rw [← hset] at hk
   generalize putB yb (yb.heard.set i zH)=B' at *
   (repeat' first|simp only [il13l0_go,il13l0b,go_sem,hs',hget,hlt,hw,ofN,v2,d1,k4,gx,hsl,hn,hmr,hav,frz_mapA,fzl]|(with_reducible first|apply wD|apply wT|(apply wM; intro)|(apply wL; intro))|((with_reducible first|refine wA ?_ ?_|refine wE ?_); rfl))
   all_goals (refine hk _ _ ⟨?_,hv2,?_⟩ <;> simp only [go_sem,hs',hw])
  ·have d1:decide (((q / 2:Nat):Int)=(j:Nat))=false:=decide_eq_false (by omega)
   have hr:fgQ w j n (s,mr) i q=(s,mr):=by rw [fgQ,if_neg hqj]
   rw [hr] at hk
   (repeat' first|simp only [il13l0_go,il13l0b,go_sem,hs',hget,hlt,hw,ofN,v2,d1,frz_mapA,fzl]|(with_reducible first|apply wD|apply wT|(apply wM; intro)|(apply wL; intro))|((with_reducible first|refine wA ?_ ?_|refine wE ?_); rfl))
   all_goals (refine hk _ _ ⟨?_,⟨hv,hmr⟩,?_⟩ <;> simp only [go_sem,hs',hw])
 ·intro s e h Y R hlt ⟨hs',_,hh⟩ hk
  subst hh
  (repeat' first|simp only [il13l0_go,il13l0b,go_sem,hs',hlt]|(with_reducible first|apply wD|apply wT|(apply wM; intro)|(apply wL; intro))|((with_reducible first|refine wA ?_ ?_|refine wE ?_); rfl))
  all_goals (refine hk _ _ _ ⟨?_,rfl,rfl⟩; simp only [go_sem,hs',id])
 ·intro x e h ⟨h1,h2,h3⟩
  have hf:∀ (r:List Int) (i:Nat) (s:List Bx × Nat),foldC (ρ:=List Bx × Nat) (fun i _ s=>Ctl.go (fgQ w j n s i ((trunkL w.t n)[i]?.getD 0))) id i r s=(List.range' i r.length).foldl (fun s k=>fgQ w j n s k ((trunkL w.t n)[k]?.getD 0)) s:=by
   intro r
   induction r with
   | nil=>intro i s; rfl
   | cons x r ih =>
    intro i s
    rw [foldC_go (s':=fgQ w j n s i ((trunkL w.t n)[i]?.getD 0)) rfl,ih,List.length_cons,List.range'_succ,List.foldl_cons]
  rw [hf,← List.range_eq_range'] at h3
  have hlen:b.ports.length=(trunkL w.t n).length:=by rw [hpo]; simp
  rw [hlen] at h3
  have hgo:h=hpCu w j rf E true (fgN w j s n)++[.row 5 [.t (.agg (brC c1 c2 c3 b))] 1,.row 5 [.t (.agg (brC c1 c2 c3 b))] 1]:=h3
  subst h2 hgo
  exact hR _ h1
theorem cut_yield (rf:Code × Code) (hrf:rfOf Try.prog 13 0=rf) (w:Nw) (hok:okT w.t=true) (hbl:(w.bs.length:Int)=w.t.nodes) (j:Nat)
  (E:FEnv) (hE:E 3=.t (.ip [I (j:Nat)])∧E 4=.ref 0 1 0 0∧E 5=.ref 1 1 0 0∧E 7=.ref 6 1 0 0) (s:List Bx × Nat) (hv:vBs w s.1) (hmr:s.2≤w.bs.length) (n:Nat) (x:Bx) (hx:s.1[n]? = some x) (hst:stA w.t n=false) (dd nn:Nat) (hn:200 < nn) (Q:AV→Heap→Prop)
  (hQ:∀ X',Q (.t (B true)) (hpCu w j rf E false (fgN w j s n)++[.row 5 [.t (.agg (bxC x))] 1]++X')) :
  oB (inl Try.prog pol (ans Try.prog pol) nn (dd+1) (.yl 8) [.t (I (n:Nat)),.t (.agg (bxC x))] (hpCu w j rf E false s++[.row 5 [.t (.agg (bxC x))] 1])) Q:=by
 subst hrf
 obtain ⟨xz,xv⟩:=hv.2 n x hx hst
 have hnl:n < w.bs.length:=by rw [← hv.1]; exact (List.getElem?_eq_some_iff.1 hx).1
 obtain ⟨z,c1,c2,c3,b⟩:=x
 dsimp only at xz xv hQ
 subst xz
 have hbc:bxC ⟨false,c1,c2,c3,b⟩=brC c1 c2 c3 b:=rfl
 rw [hbc] at hQ ⊢
 have hq:=hQ [.row 5 [.t (.agg (brC c1 c2 c3 b))] 1]
 have key:([.row 6 [.t zN6] 0,.row 1 [.t (I 0)] 0,.row 6 [.agg (nwA 3 5 w)] 1,.row 1 (((w.down.set j true).map B).map .t) w.down.length,.row 6 [.agg (nwA 3 5 w)] 1,bsRow s.1 s.2,.row 6 [.agg (nwA 3 5 w)] 1,.row 6 [.agg (nwA 3 5 w)] 0,.loop 13 (lpEnv 77 (tidyF (some [3,4,5,7]) E)) [39,40] (rfOf Try.prog 13 0).1 (rfOf Try.prog 13 0).2 true none,.row 5 [.t (.agg (brC c1 c2 c3 b))] 1,.row 5 [.t (.agg (brC c1 c2 c3 b))] 1]:Heap)
   = hpCu w j (rfOf Try.prog 13 0) E true s++[.row 5 [.t (.agg (brC c1 c2 c3 b))] 1,.row 5 [.t (.agg (brC c1 c2 c3 b))] 1]:=rfl
 have hR:=fun (R:Xit→FEnv→Heap→Prop) (e:FEnv) he hR=>cut_l0 w hok hbl j (rfOf Try.prog 13 0) E hE c1 c2 c3 b n hnl xv.ports hst s hv hmr dd nn hn R e he hR
 rw [← key] at hR
 generalize fgN w j s n=s2 at *
 simp only [hpCu,lpCu,List.cons_append,List.nil_append,nwA,bsRow] at hq hR ⊢
 with_reducible refine oB_yl (E:=tidyF (some [3,4,5,7]) E) rfl rfl rfl il13r0a_eq il13r0b_eq ?_
 (repeat' first|simp only [il13r0a,il13r0b,go_sem,hE]|(with_reducible first|apply wD|apply wT|(apply wM; intro)|(apply wL; intro))|((with_reducible first|refine wA ?_ ?_|refine wE ?_); rfl))
 with_reducible refine hR _ _ (by simp only [go_sem,hE]) ?_
 intro e he
 (repeat' first|simp only [il13r0b,go_sem,he]|(with_reducible first|apply wD|apply wT|(apply wM; intro)|(apply wL; intro))|((with_reducible first|refine wA ?_ ?_|refine wE ?_); rfl))
 all_goals exact hq
end Go.Proofs.Ytbibdnlbpjnieaa
namespace Go.Proofs.Ytbibdnlbpjnieaa
open Go Go.Abs
def fgL (w:Nw) (j:Nat) (s:List Bx) (n:Nat):List Bx:=(List.range (trunkL w.t n).length).foldl (fun s i=>if ((trunkL w.t n)[i]?.getD 0) / 2=j then s.set n (fgB (s[n]?.getD zBx).b i) else s) s
theorem fgN_fst (w:Nw) (j:Nat) (s:List Bx × Nat) (n:Nat):(fgN w j s n).1=fgL w j s.1 n:=fold_fst _ _ (fun s i=>by unfold fgQ; split <;> rfl) _ _
def cutL (w:Nw) (j:Nat):List Bx:=(List.range w.bs.length).foldl (stS w.t (fgL w j)) (w.bs.map cpX)
section
variable (f:Fl) (w:Nw) (k:Int) (hz:zOk w)
include hz
theorem Cut_arg (hok:okN w=true) (hk:k < 0∨(w.t.links.length:Int)≤k):ans Try.prog pol 13 [nwT f w,I k]=some (.tup [zN6,I 2]):=by
 have hO:=okN_ok hok hz
 obtain ⟨z1,z2,z3⟩:=okT_size hO.t
 have hpl:=rankL_len hO.rank
 have hbl:=hO.bl
 have hdl:=hO.dl
 have k1:=CheckN_ans f w hz (by omega) (by omega)
 rw [if_pos hok] at k1
 refine ans_go 2000 5 il13_eq (Nat.le_of_ble_eq_true rfl) ?_
 by_cases q:k < 0
 ·have d1:=decide_eq_true q
  (repeat' first|simp only [il13c,go_sem,k1,d1]|(with_reducible first|apply wD|apply wT|(apply wM; intro)|(apply wL; intro))|((with_reducible first|refine wA ?_ ?_|refine wE ?_); rfl))
 ·have d1:=decide_eq_false q
  have d2:decide (((w.down.length:Nat):Int)≤k)=true:=decide_eq_true (by omega)
  (repeat' first|simp only [il13c,go_sem,k1,d1,d2]|(with_reducible first|apply wD|apply wT|(apply wM; intro)|(apply wL; intro))|((with_reducible first|refine wA ?_ ?_|refine wE ?_); rfl))
theorem Cut_ok (hok:okN w=true) (j:Nat) (hj:j < w.t.links.length) (hb6:∀ x∈w.bs,x.b.ports.length≤900∧x.b.costs.length≤900∧x.b.heard.length≤900):ans Try.prog pol 13 [nwT f w,I (j:Nat)]=some (.tup [nwT ⟨false,false,false,false,true⟩ ⟨w.t,w.prios,w.down.set j true,cutL w j⟩,I 0]):=by
 have hO:=okN_ok hok hz
 obtain ⟨z1,z2,z3⟩:=okT_size hO.t
 have hpl:=rankL_len hO.rank
 have hbl:=hO.bl
 have hdl:=hO.dl
 have k1:=CheckN_ans f w hz (by omega) (by omega)
 rw [if_pos hok] at k1
 have hne:w.down≠[]:=by
  have h:=(links_ne hO.t)
  intro hd; rw [hd] at hdl; exact h (List.eq_nil_of_length_eq_zero hdl.symm)
 have d1:decide (((j:Nat):Int) < 0)=false:=decide_eq_false (by omega)
 have d2:decide (((w.down.length:Nat):Int)≤((j:Nat):Int))=false:=decide_eq_false (by omega)
 obtain ⟨nn,h2000⟩:∃ nn,2000 < nn:=⟨2001,by omega⟩
 have hn1:1000 < nn:=by omega
 have hn2:200 < nn:=by omega
 refine ans_go nn 5 il13_eq (Nat.le_of_ble_eq_true rfl) ?_
 simp only [il13c]
 generalize hrf:rfOf Try.prog 13 0=rf
 (repeat' first|simp only [List.cons_append,List.nil_append,go_sem,k1,d1,d2]|(with_reducible first|apply wD|apply wT|(apply wM; intro)|(apply wL; intro))|((with_reducible first|refine wA ?_ ?_|refine wE ?_); rfl))
 with_reducible refine copied_fresh f w hne (by omega) (by omega) (by omega) (by omega) (by omega) hb6 2 3 nn hn1 _ ?_
 intro mr hmr
 have a1:avoidAll (belowB 2) [.agg (nwA 3 5 w)]=true:=by simp [nwA,avoidAll,avoid,belowB]
 have hdl2:((w.down.map B).map AV.t).length=w.down.length:=by simp
 have hjd:j < w.down.length:=by omega
 obtain ⟨y,hy⟩:∃ y,w.down[j]? = some y:=⟨w.down[j]'hjd,by simp [hjd]⟩
 have gy:((w.down.map B).map AV.t)[j]? = some (.t (B y)):=map_get (enc:=B) hy
 have hset:=map_set (enc:=B) (l:=w.down) (i:=j) (x:=true)
 have hl3:((((w.down.set j true)).map B).map AV.t).length=w.down.length:=by simp
 have hv1:=vBs_cpX hO.vb
 simp only [nwA,dnRow,bsRow,Nat.reduceAdd] at a1 ⊢
 (repeat' first|simp only [freshK_app,List.replicate_succ,List.replicate_zero,List.drop_succ_cons,List.drop_zero,List.cons_append,List.nil_append,go_sem,av_map,a1,List.drop_succ_cons,List.drop_zero,hdl2,hjd,gy,hset,hl3,hmr]|(with_reducible first|apply wD|apply wT|(apply wM; intro)|(apply wL; intro))|((with_reducible first|refine wA ?_ ?_|refine wE ?_); rfl)|((with_reducible refine oB_inl il26_eq ?_ ?_); exact Nat.le_of_ble_eq_true rfl; simp only [il26c]))
 have key:∀ E:FEnv,([.row 6 [.t zN6] 0,.row 1 [.t (I 0)] 0,.row 6 [.agg (nwA 3 5 w)] 1,.row 1 (((w.down.set j true).map B).map .t) w.down.length,.row 6 [.agg (nwA 3 5 w)] 1,bsRow (w.bs.map cpX) mr,.row 6 [.agg (nwA 3 5 w)] 1,.row 6 [.agg (nwA 3 5 w)] 0,.loop 13 (lpEnv 77 (tidyF (some [3,4,5,7]) E)) [39,40] rf.1 rf.2 false none]:Heap)=hpCu w j rf E false (w.bs.map cpX,mr):=fun E=>rfl
 simp only [nwA,bsRow] at key
 rw [key]
 have h89:8 < 9:=by omega
 have h79:7 < 9:=by omega
 have h59:5 < 9:=by omega
 have h01:0≤1:=by omega
 have hI0:vBs w (w.bs.map cpX,mr).1∧(w.bs.map cpX,mr).2≤w.bs.length:=⟨hv1,hmr⟩
 have hb100:w.bs.length≤100:=by omega
 have hnx:∀ (s:List Bx × Nat) n,n < w.bs.length→stA w.t n=false→vBs w s.1∧s.2≤w.bs.length→vBs w (fgN w j s n).1∧(fgN w j s n).2≤w.bs.length:=fun s n _ hs h=>fgN_ok h.1 h.2 hs
 let σ:={ s:List Bx × Nat // vBs w s.1∧s.2≤w.bs.length }
 let nx:σ→Nat→σ:=fun s n=>if h:n < w.bs.length∧stA w.t n=false then ⟨fgN w j s.1 n,hnx s.1 n h.1 h.2 s.2⟩ else s
 have hnxv:∀ (s:σ) n,n < w.bs.length→stA w.t n=false→(nx s n).1=fgN w j s.1 n:=fun s n h1 h2=>by simp only [nx]; rw [dif_pos ⟨h1,h2⟩]
 have hstv:∀ (s:σ) n,n < w.bs.length→(stS w.t nx s n).1=stS w.t (fgN w j) s.1 n:=fun s n h1=>by
  unfold stS
  by_cases q:stA w.t n=true
  ·rw [if_pos q,if_pos q]
  ·rw [if_neg q,if_neg q]; exact hnxv s n h1 (by simpa using q)
 have hfv:∀ (s:σ) k,k≤w.bs.length→((List.range k).foldl (stS w.t nx) s).1=(List.range k).foldl (stS w.t (fgN w j)) s.1:=by
  intro s k
  induction k with
  | zero=>intro _; rfl
  | succ k ih =>
   intro hk
   rw [List.range_succ,List.foldl_append,List.foldl_append,List.foldl_cons,List.foldl_cons,List.foldl_nil,List.foldl_nil,hstv _ _ (by omega),ih (by omega)]
 have hLs:∀ s:σ,s.1.1.length=w.bs.length:=fun s=>by have h:=s.2.1; unfold vBs at h; exact h.1
 have hs0:∀ E:FEnv,hpCu w j rf E false (w.bs.map cpX,mr)=(fun s:σ=>hpCu w j rf E false s.1) ⟨(w.bs.map cpX,mr),hI0⟩:=fun E=>rfl
 rw [hs0]
 have hcl:cutL w j=((List.range w.bs.length).foldl (stS w.t (fgN w j)) (w.bs.map cpX,mr)).1:=by
  rw [fold_fst _ _ (stS_fst w.t (fgN w j) (fgL w j) (fgN_fst w j))]; rfl
 have hfin:=fold_ok hnx hI0 w.bs.length (Nat.le_refl _)
 with_reducible refine @all_iterR σ (fun s:σ=>hpCu w j rf _ false s.1) 9 (fun s=>rfl) nx 4 nn 8 (fun n s=>True) w (fun _ _ _ _=>trivial) ?_ h89 7 3 5 0 h79 h01 h59 (fun s=>s.1.1) (fun s=>s.1.2) hLs (fun s=>s.2.2) (fun _ _=>rfl) (fun _ _=>rfl) z2 hbl hb100 ?_ ⟨(w.bs.map cpX,mr),hI0⟩ trivial _ hn2 ?_
 ·intro s h q hq
  exact hpCu_frz w j rf _ (by simp only [go_sem]) false s.1 h q hq
 ·intro s n x Q hx hs _ hQ
  have hnl:n < w.bs.length:=by rw [← hLs s]; exact (List.getElem?_eq_some_iff.1 hx).1
  have hQ':∀ X',Q (.t (B true)) (hpCu w j rf _ false (nx s n).1++[.row 5 [.t (.agg (bxC x))] 1]++X'):=hQ
  rw [hnxv s n hnl hs] at hQ'
  with_reducible exact @cut_yield rf hrf w hO.t hbl j _ (by simp only [go_sem]) s.1 s.2.1 s.2.2 n x hx hs 3 nn hn2 Q hQ'
 ·intro v
  change rfEnd _ _ _ v (hpCu w j rf _ false ((List.range w.bs.length).foldl (stS w.t nx) ⟨(w.bs.map cpX,mr),hI0⟩).1)
  rw [hfv _ _ (Nat.le_refl _)]
  rw [hcl]
  generalize (List.range w.bs.length).foldl (stS w.t (fgN w j)) (w.bs.map cpX,mr)=s at *
  obtain ⟨hf1,hf2⟩:=hfin
  have hl4:((s.1.map encX).map AV.t).length=w.bs.length:=by simp [hf1.1]
  simp only [hpCu,lpCu,List.cons_append,List.nil_append,nwA,bsRow]
  (repeat' first|simp only [il13c,go_sem,frz_mapA,hl3,hl4,hf2]|(with_reducible first|apply wD|apply wT|(apply wM; intro)|(apply wL; intro))|((with_reducible first|refine wA ?_ ?_|refine wE ?_); rfl))
end
end Go.Proofs.Ytbibdnlbpjnieaa
namespace Go.Proofs.Ytbibdnlbpjnieaa
open Go Go.Abs
theorem trunks_fresh (f:Fl) (w:Nw) (n:Nat) (h:okT w.t=true) (hn:(n:Int) < w.t.nodes) (dd nn:Nat) (hnn:200 < nn) (Q:AV→Heap→Prop)
  (hQ:Q (.tup [.ms 10 (trunkL w.t n).length 0 (trunkL w.t n).length 1 false,.ms 11 (trunkL w.t n).length 0 (trunkL w.t n).length 1 false]) [.gone,.gone,.gone,.gone,.gone,.gone,.gone,.gone,.gone,.gone,rowG 1 I ((trunkL w.t n).map ofN),rowG 1 I (costL w.t n)]) :
  oB (inl Try.prog pol (ans Try.prog pol) nn (dd+1) (.fn 34) [.t (nwT f w),.t (I (n:Nat))] (List.replicate 10 .gone)) Q:=by
 obtain ⟨z1,z2,z3⟩:=okT_size h
 have k1:=nports_ans f w n h hn
 have hpl:=ports_len w.t n
 have hplt:=fun p=>@ports_lt w.t n p
 simp only [costL,trunkL] at hQ ⊢
 generalize portsL w.t n=L at *
 have hLl:(L.map ofN).length=L.length:=by simp
 with_reducible refine oB_inl il34_eq ?_ ?_
 ·exact Nat.le_of_ble_eq_true rfl
 simp only [List.replicate_succ,List.replicate_zero]
 (repeat' first|simp only [il34c,go_sem,k1,hLl]|(with_reducible first|apply wD|apply wT|(apply wM; intro)|(apply wL; intro))|((with_reducible first|refine wA ?_ ?_|refine wE ?_); rfl))
 refine loop_range L (fun p=>I (ofN p)) (step:=fun _ p (o:List Nat)=>.go (if innP w.t p=true then o++[p] else o)) (fin:=id)
  (St:=fun i o e h=>(e 2=.t (.ip (nwC f w))∧e 4=.ms 10 o.length 0 o.length 1 false∧e 5=.ms 11 o.length 0 o.length 1 false∧e 10=.t (.sl false 1 ((L.map ofN).map I))∧e 11=.t (I (L.length:Nat))∧e 12=.t (I (i:Nat)))∧o.length≤i∧h=[.gone,.gone,.gone,.gone,.gone,.gone,.gone,.gone,.gone,.gone,rowG 1 I (o.map ofN),rowG 1 I (o.map (perP w.t))])
  (Ex:=fun o x e h=>(e 4=.ms 10 o.length 0 o.length 1 false∧e 5=.ms 11 o.length 0 o.length 1 false)∧x=.exit 0∧h=[.gone,.gone,.gone,.gone,.gone,.gone,.gone,.gone,.gone,.gone,rowG 1 I (o.map ofN),rowG 1 I (o.map (perP w.t))]) (s:=[]) (by omega) ?_ ?_ (by omega) ?_ ?_
 ·intro i p o e h Y R hm hi hx hget hlt hw ⟨hs,ho,hh⟩ hk
  subst hh
  simp only [ctlK_go] at hk
  have hp:=hplt p hm
  have hget':((L.map ofN).map I)[i]? = some (I (ofN p)):=by simp [hx]
  have k2:=other_ans f w p h hp
  obtain ⟨g1,q1⟩:=st_get w.t z2 (toP_node h hp)
  have hj:p / 2 < w.t.links.length:=by omega
  have g2:(w.t.links.map encK)[p / 2]? = some (encK (lnk w.t (p / 2))):=by simp [lnk,hj]
  have v2:IntKind.i64.wrap (Int.tdiv (p:Nat) 2)=((p / 2:Nat):Int):=by rw [tdiv2]; exact wrap_i64 (by omega) (by omega)
  have hroom:(o.length+1)*8≤roomB:=ap_room (by omega) (by omega)
  have hl1:(o.map ofN).length=o.length:=by simp
  have hl2:(o.map (perP w.t)).length=o.length:=by simp
  have is1:rowIs 1 o.length (some (rowG 1 I (o.map ofN))):=by have:=rowG_is (k:=1) (enc:=I) (l:=o.map ofN); rwa [hl1] at this
  have is2:rowIs 1 o.length (some (rowG 1 I (o.map (perP w.t)))):=by have:=rowG_is (k:=1) (enc:=I) (l:=o.map (perP w.t)); rwa [hl2] at this
  have pu1:AObj.row 1 (((o.map ofN).map I).map .t++[.t (I (ofN p))]) 0=rowG 1 I ((o++[p]).map ofN):=by simp [rowG]
  have pu2:AObj.row 1 (((o.map (perP w.t)).map I).map .t++[.t (I (lnk w.t (p / 2)).per)]) 0=rowG 1 I ((o++[p]).map (perP w.t)):=by simp [rowG,perP]
  have hinn:innP w.t p = !stA w.t (toP w.t p).toNat:=rfl
  rw [hinn] at hk
  generalize lnk w.t (p / 2)=l at *
  cases hst:stA w.t (toP w.t p).toNat with
  | true =>
   rw [hst] at g1 hk
   simp only [Bool.not_true,Bool.false_eq_true,if_false] at hk
   (repeat' first|simp only [il34l0_go,il34l0b,go_sem,hs,hget',hlt,hw,ofN,k2,q1,g1,frz_rowG]|(with_reducible first|apply wD|apply wT|(apply wM; intro)|(apply wL; intro))|((with_reducible first|refine wA ?_ ?_|refine wE ?_); rfl))
   all_goals (refine hk _ _ ⟨?_,by omega,rfl⟩; simp only [go_sem,hs,hw,ofN])
  | false =>
   rw [hst] at g1 hk
   simp only [Bool.not_false,if_true] at hk
   simp only [ofN] at pu1
   (repeat' first|simp only [il34l0_go,il34l0b,go_sem,hs,hget',hlt,hw,ofN,k2,q1,g1,g2,encK_cells,v2,hroom,is1,is2,rowG_es,rowG_mr,pu1,pu2,frz_rowG]|(with_reducible first|apply wD|apply wT|(apply wM; intro)|(apply wL; intro))|((with_reducible first|refine wA ?_ ?_|refine wE ?_); rfl))
   all_goals (refine hk _ _ ⟨?_,by simp; omega,?_⟩ <;> simp only [go_sem,hs,hw,ofN,List.length_append])
 ·intro o e h Y R hlt ⟨hs,ho,hh⟩ hk
  subst hh
  (repeat' first|simp only [il34l0_go,il34l0b,go_sem,hs,hlt]|(with_reducible first|apply wD|apply wT|(apply wM; intro)|(apply wL; intro))|((with_reducible first|refine wA ?_ ?_|refine wE ?_); rfl))
  all_goals (refine hk _ _ _ ⟨?_,rfl,rfl⟩; simp only [go_sem,hs,id])
 ·refine ⟨?_,by simp,rfl⟩
  simp only [go_sem,List.map_map]
 ·intro x e h ⟨h1,h2,h3⟩
  have hf:∀ (l:List Nat) (i:Nat) (o:List Nat),foldC (ρ:=List Nat) (fun _ p o=>Ctl.go (if innP w.t p=true then o++[p] else o)) id i l o=o++l.filter (innP w.t):=by
   intro l
   induction l with
   | nil=>intro i o; simp [foldC]
   | cons p l ih =>
    intro i o
    rw [foldC_go (s':=if innP w.t p=true then o++[p] else o) rfl,ih,List.filter_cons]
    by_cases q:innP w.t p=true
    ·simp [q]
    ·simp [q]
  rw [hf,List.nil_append] at h1 h3
  subst h2 h3
  generalize L.filter (innP w.t)=o at *
  have hl1:(o.map ofN).length=o.length:=by simp
  have hl2:(o.map (perP w.t)).length=o.length:=by simp
  have is1:rowIs 1 o.length (some (rowG 1 I (o.map ofN))):=by have:=rowG_is (k:=1) (enc:=I) (l:=o.map ofN); rwa [hl1] at this
  have is2:rowIs 1 o.length (some (rowG 1 I (o.map (perP w.t)))):=by have:=rowG_is (k:=1) (enc:=I) (l:=o.map (perP w.t)); rwa [hl2] at this
  (repeat' first|simp only [il34c,go_sem,h1,is1,is2,rowG_es,rowG_mr]|(with_reducible first|apply wD|apply wT|(apply wM; intro)|(apply wL; intro))|((with_reducible first|refine wA ?_ ?_|refine wE ?_); rfl))
  all_goals exact hQ
theorem filter_half (fr:Nat→Int) (n:Int):∀ L:Nat,(∀ i,i < L→(fr (2*i)=n→fr (2*i+1)≠n))→((List.range (2*L)).filter (fun p=>decide (fr p=n))).length≤L:=by
 intro L
 induction L with
 | zero=>intro _; simp
 | succ L ih =>
  intro hh
  have h1:=ih (fun i hi=>hh i (by omega))
  rw [show 2*(L+1)=(2*L+1)+1 by omega,List.range_succ,List.range_succ,List.filter_append,List.filter_append]
  simp only [List.length_append]
  have h2:=hh L (by omega)
  by_cases q:fr (2*L)=n
  ·have q2:=h2 q
   simp [q,q2]
   omega
  ·by_cases q2:fr (2*L+1)=n
   ·simp [q,q2]; omega
   ·simp [q,q2]; omega
end Go.Proofs.Ytbibdnlbpjnieaa
namespace Go.Proofs.Ytbibdnlbpjnieaa
open Go Go.Abs
theorem trunk_24 {t:Tpo} (h:okT t=true) (n:Int):(trunkL t n).length≤24:=by
 obtain ⟨z1,z2,z3⟩:=okT_size h
 refine Nat.le_trans (Nat.le_trans (List.length_filter_le _ _) (filter_half (frP t) n t.links.length fun i hi h1 h2=>?_)) z3
 have he:=(ends_at h hi).2.2
 have e1:2*i / 2=i:=by omega
 have e2:(2*i+1) / 2=i:=by omega
 have e3:2*i % 2=0:=by omega
 have e4:¬ (2*i+1) % 2=0:=by omega
 rw [frP,e1,if_pos e3] at h1
 rw [frP,e2,if_neg e4] at h2
 exact he (h1.trans h2.symm)
theorem trunk_sorted (t:Tpo) (n:Int):(trunkL t n).Pairwise (· < ·):=(List.Pairwise.filter _ (List.Pairwise.filter _ List.pairwise_lt_range))
theorem per_ok {t:Tpo} (h:okT t=true) {p:Nat} (hp:p < 2*t.links.length):1≤perP t p∧perP t p≤1000:=by
 simp only [okT,Bool.and_eq_true] at h
 have h1:=sound_lk h.2.1 (i:=p / 2) (by omega)
 simp only [lkOk,lk4,Bool.and_eq_true,decide_eq_true_eq] at h1
 exact h1.2.2.2.1
def newN (w:Nw) (n:Nat):Bx:=⟨false,true,true,true,newB (prA w n) (n:Nat) ((trunkL w.t n).map ofN) (costL w.t n)⟩
theorem newN_ok {w:Nw} (h:okT w.t=true) (hr:rankL w.t w.prios=true) {n:Nat} (hn:(n:Int) < w.t.nodes):VB w n (newN w n).b:=by
 obtain ⟨z1,z2,z3⟩:=okT_size h
 refine ⟨?_,rfl,rfl,rfl,rfl⟩
 have hl:=trunk_24 h (n:Nat)
 have hpr:0≤prA w n∧prA w n≤15:=by
  have hpl:=rankL_len hr
  simp only [rankL,Bool.and_eq_true,List.all_eq_true,decide_eq_true_eq] at hr
  have hlt:n < w.prios.length:=by omega
  have:=hr.2 w.prios[n] (List.getElem_mem hlt)
  simpa [prA,hlt] using this
 have hL:okL (newB (prA w n) (n:Nat) ((trunkL w.t n).map ofN) (costL w.t n)):=⟨by simpa [newB] using hl,by simp [newB,costL],by simp [newB]⟩
 have hB:bidP (prA w n) (n:Nat):=⟨hpr,by omega,by omega⟩
 rw [okB,Bool.and_eq_true,Bool.and_eq_true]
 refine ⟨⟨decide_eq_true hL,decide_eq_true hB⟩,?_⟩
 simp only [newN,newB,List.all_eq_true,List.mem_range]
 intro i hi
 simp only [List.length_map] at hi
 obtain ⟨p,hp⟩:∃ p,(trunkL w.t n)[i]? = some p:=⟨(trunkL w.t n)[i]'hi,by simp [hi]⟩
 have hpt:=List.mem_of_getElem? hp
 have hplt:=trunk_lt hpt
 have hc:=per_ok h hplt
 simp only [okAt,decide_eq_true_eq,prt,cst,hrd,List.getElem?_map,costL,hp,Option.map_some,Option.getD_some,ofN]
 refine ⟨by omega,?_,hc,?_⟩
 ·intro hi0
  obtain ⟨q,hq⟩:∃ q,(trunkL w.t n)[i - 1]? = some q:=⟨(trunkL w.t n)[i - 1]'(by omega),by simp [show i - 1 < (trunkL w.t n).length by omega]⟩
  simp only [hq,Option.map_some,Option.getD_some,ofN]
  have hs:=List.pairwise_iff_getElem.1 (trunk_sorted w.t n) (i - 1) i (by omega) hi (by omega)
  rw [List.getElem?_eq_some_iff] at hp hq
  obtain ⟨_,rfl⟩:=hp
  obtain ⟨_,rfl⟩:=hq
  omega
 ·rw [List.length_map]
  simp only [List.getElem?_replicate,hi,if_true,Option.getD_some]
  exact okH_no
end Go.Proofs.Ytbibdnlbpjnieaa
namespace Go.Proofs.Ytbibdnlbpjnieaa
open Go Go.Abs
def trP (t:Tpo) (p:Nat):Prop:=p < 2*t.links.length∧stA t (frP t p).toNat=false∧stA t (toP t p).toNat=false
theorem trP_mem {t:Tpo} {p:Nat} (h:trP t p):p∈trunkL t (frP t p):=mem_trunk.2 ⟨h.1,rfl,h.2.2⟩
theorem trP_bk {t:Tpo} {p:Nat} (h:trP t p):trP t (bk p):=⟨bk_lt h.1,by rw [bk_fr]; exact h.2.2,by rw [bk_to]; exact h.2.1⟩
theorem trP_of {t:Tpo} {n:Nat} {p:Nat} (hs:stA t n=false) (h:p∈trunkL t (n:Nat)):trP t p:=by
 obtain ⟨h1,h2,h3⟩:=mem_trunk.1 h
 exact ⟨h1,by rw [h2]; simpa using hs,h3⟩
def bsA (bs:List Bx) (n:Nat):Br:=(bs[n]?.getD zBx).b
def hAt (t:Tpo) (bs:List Bx) (p:Nat):Hd:=hrd (bsA bs (frP t p).toNat) (ixP t p)
def sntP (t:Tpo) (bs:List Bx) (p:Nat):Hd:=sentF (bsA bs (frP t p).toNat) (opF (bsA bs (frP t p).toNat)).t (ixP t p)
theorem ixP_inj {t:Tpo} {p q:Nat} (hp:trP t p) (hq:trP t q) (hf:frP t p=frP t q) (hi:ixP t p=ixP t q):p=q:=by
 have h1:=(ixP_spec (trP_mem hp)).2.1
 have h2:=(ixP_spec (trP_mem hq)).2.1
 rw [hf,hi] at h1
 rw [h1] at h2
 exact Option.some.inj h2
theorem ixP_at {t:Tpo} {n:Nat} {i p:Nat} (h:(trunkL t (n:Nat))[i]? = some p):ixP t p=i:=by
 have hm:=List.mem_of_getElem? h
 have hf:frP t p=(n:Nat):=(mem_trunk.1 hm).2.1
 rw [← hf] at hm h
 obtain ⟨h1,h2,_⟩:=ixP_spec hm
 have hs:=trunk_sorted t (frP t p)
 obtain ⟨hi,hx⟩:=List.getElem?_eq_some_iff.1 h
 obtain ⟨hj,hy⟩:=List.getElem?_eq_some_iff.1 h2
 rw [List.pairwise_iff_getElem] at hs
 rcases Nat.lt_trichotomy (ixP t p) i with h|h|h
 ·have:=hs _ _ hj hi h; omega
 ·exact h
 ·have:=hs _ _ hi hj h; omega
section
variable {w:Nw} (hok:okT w.t=true) (hbl:(w.bs.length:Int)=w.t.nodes)
include hok hbl
theorem vBs_at {bs:List Bx} (hv:vBs w bs) {p:Nat} (hp:trP w.t p):∃ n x,frP w.t p=((n:Nat):Int)∧n < w.bs.length∧bs[n]? = some x∧bsA bs n=x.b∧x.z=false∧VB w n x.b∧x.b.heard.length=(trunkL w.t n).length∧ixP w.t p < x.b.heard.length:=by
 have hn:=frP_node hok hp.1
 obtain ⟨h1,h2⟩:=hn
 have hlt:(frP w.t p).toNat < bs.length:=by rw [hv.1]; omega
 refine ⟨(frP w.t p).toNat,bs[(frP w.t p).toNat],by omega,by omega,by simp [hlt],by simp [bsA,hlt],?_⟩
 have h3:=hv.2 _ bs[(frP w.t p).toNat] (by simp [hlt]) hp.2.1
 obtain ⟨h4,h5⟩:=h3
 have h6:=okB_len h5.ok
 simp only [okL] at h6
 have h7:(bs[(frP w.t p).toNat]).b.ports.length=(trunkL w.t ((frP w.t p).toNat:Nat)).length:=by rw [h5.ports]; simp
 have h8:=(ixP_spec (trP_mem hp)).1
 have h9:(((frP w.t p).toNat:Nat):Int)=frP w.t p:=by omega
 refine ⟨h4,h5,by omega,?_⟩
 rw [h9] at h7
 omega
theorem rcvP_at {bs:List Bx} (hv:vBs w bs) {p q:Nat} (hp:trP w.t p) (hq:trP w.t q) (m:Hd) :
  hAt w.t (rcvP w bs p m) q=if (m.is=true∧dnA w (p / 2)=false)∧q=bk p then rcvH (hAt w.t bs q) m else hAt w.t bs q:=by
 unfold rcvP
 by_cases hc:m.is=true∧dnA w (p / 2)=false
 ·rw [if_pos hc]
  obtain ⟨n,x,h1,h2,h3,h4,h5,h6,h7,h8⟩:=vBs_at hok hbl hv hq
  obtain ⟨n',x',k1,k2,k3,k4,k5,k6,k7,k8⟩:=vBs_at hok hbl hv (trP_bk hp)
  rw [bk_fr] at k1
  have hx':(bs[(toP w.t p).toNat]?.getD zBx).b=x'.b:=by rw [k1,Int.toNat_natCast,k3]; rfl
  rw [hx',k1,Int.toNat_natCast]
  by_cases hn:n=n'
  ·subst hn
   have hxx:x=x':=by rw [h3] at k3; exact Option.some.inj k3
   subst hxx
   have hlt:n < bs.length:=(List.getElem?_eq_some_iff.1 h3).1
   have e1:bsA (bs.set n (rcvB x.b (ixP w.t (bk p)) m)) n=putB x.b (x.b.heard.set (ixP w.t (bk p)) (rcvH (hrd x.b (ixP w.t (bk p))) m)):=by simp [bsA,hlt,rcvB]
   by_cases hqp:q=bk p
   ·rw [if_pos ⟨hc,hqp⟩]
    subst hqp
    simp only [hAt,h1,Int.toNat_natCast,e1,h4]
    simp [hrd,putB,k8]
   ·rw [if_neg (fun h=>hqp h.2)]
    have hne:ixP w.t (bk p)≠ixP w.t q:=fun h=>hqp (ixP_inj hq (trP_bk hp) (by rw [h1,bk_fr,k1]) h.symm)
    simp only [hAt,h1,Int.toNat_natCast,e1,h4]
    simp only [hrd,putB]
    rw [List.getElem?_set_ne hne]
  ·have hqp:q≠bk p:=fun h=>hn (by rw [h,bk_fr,k1] at h1; omega)
   rw [if_neg (fun h=>hqp h.2)]
   simp only [hAt,h1,Int.toNat_natCast,bsA]
   rw [List.getElem?_set_ne (fun h=>hn h.symm)]
 ·rw [if_neg hc,if_neg (fun h=>hc h.1)]
omit hok hbl in
theorem rcvP_st {bs:List Bx} {p:Nat} (hp:trP w.t p) (m:Hd) {n:Nat} (hn:stA w.t n=true):(rcvP w bs p m)[n]? = bs[n]?:=by
 unfold rcvP
 split
 ·rw [List.getElem?_set_ne]
  intro h
  rw [← h,hp.2.2] at hn
  cases hn
 ·rfl
theorem rcv_fold (snt:Nat→Hd) (hs:∀ p,trP w.t p→(snt p).is=true→helloP (snt p)):∀ (l:List Nat),l.Pairwise (· ≠ ·)→(∀ p∈l,trP w.t p)→∀ bs,vBs w bs →
  vBs w (l.foldl (fun s p=>rcvP w s p (snt p)) bs)∧(∀ n,stA w.t n=true→(l.foldl (fun s p=>rcvP w s p (snt p)) bs)[n]? = bs[n]?) ∧
  ∀ q,trP w.t q→hAt w.t (l.foldl (fun s p=>rcvP w s p (snt p)) bs) q=if bk q∈l∧(snt (bk q)).is=true∧dnA w (q / 2)=false then rcvH (hAt w.t bs q) (snt (bk q)) else hAt w.t bs q:=by
 intro l
 induction l with
 | nil=>intro _ _ bs hv; exact ⟨hv,fun _ _=>rfl,fun q _=>by rw [if_neg (fun h=>by cases h.1)]; rfl⟩
 | cons p l ih =>
  intro hnd hm bs hv
  rw [List.pairwise_cons] at hnd
  have hp:=hm p (by simp)
  have hv2:=rcvP_ok hv (hs p hp) hp.2.2
  obtain ⟨i1,i2,i3⟩:=ih hnd.2 (fun q hq=>hm q (by simp [hq])) (rcvP w bs p (snt p)) hv2
  rw [List.foldl_cons]
  refine ⟨i1,fun n hn=>by rw [i2 n hn,rcvP_st hp _ hn],fun q hq=>?_⟩
  rw [i3 q hq,rcvP_at hok hbl hv hp hq]
  by_cases hqp:q=bk p
  ·have hb:bk q=p:=by rw [hqp,bk_bk]
   have hnl:bk q ∉ l:=fun h=>hnd.1 _ h hb.symm
   rw [if_neg (fun h=>hnl h.1)]
   have hh:p / 2=q / 2:=by rw [← hb,bk_half]
   by_cases hc:(snt p).is=true∧dnA w (p / 2)=false
   ·rw [if_pos ⟨hc,hqp⟩,if_pos ⟨by rw [hb]; simp,by rw [hb,← hh]; exact hc⟩,hb]
   ·rw [if_neg (fun h=>hc h.1),if_neg (fun h=>hc (by rw [hb,← hh] at h; exact h.2))]
  ·have hb:bk q≠p:=fun h=>hqp (by rw [← h,bk_bk])
   rw [if_neg (c:=(_∧_)∧q=bk p) (fun h=>hqp h.2)]
   by_cases hc:bk q∈l∧(snt (bk q)).is=true∧dnA w (q / 2)=false
   ·rw [if_pos hc,if_pos ⟨by simp [hc.1],hc.2⟩]
   ·rw [if_neg hc,if_neg (fun h=>hc ⟨by have:=h.1; rw [List.mem_cons] at this; exact this.resolve_left hb,h.2⟩)]
omit hok hbl in
theorem fold_get {σ:Type} (g:σ→Nat→Nat→σ) (f:σ→Nat→σ) (l:List Nat) (h:∀ s i p,l[i]? = some p→g s i p=f s p) (s:σ):(List.range l.length).foldl (fun s i=>g s i (l[i]?.getD 0)) s=l.foldl f s:=by
 have e:l=(List.range l.length).map (fun i=>l[i]?.getD 0):=by
  apply List.ext_getElem
  ·simp
  ·intro i h1 h2; simp [h1]
 conv=>rhs; rw [e,List.foldl_map]
 refine foldl_eq _ _ (fun s i hi=>?_)
 have hi:=List.mem_range.1 hi
 have:l[i]? = some l[i]:=by simp [hi]
 rw [this]
 exact h s i _ this
omit hok hbl in
theorem fold_flat {σ:Type} {f:σ→Nat→σ} {g:σ→Nat→σ} {h:Nat→List Nat}:∀ (l:List Nat) (s:σ),(∀ s,∀ n∈l,f s n=(h n).foldl g s)→l.foldl f s=(l.flatMap h).foldl g s:=by
 intro l
 induction l with
 | nil=>intro s _; rfl
 | cons n l ih =>
  intro s hf
  rw [List.foldl_cons,List.flatMap_cons,List.foldl_append,ih _ (fun s m hm=>hf s m (by simp [hm])),hf s n (by simp)]
omit hok hbl in
theorem rcvL_eq {bs0:List Bx} (hv:vBs w bs0) {n:Nat} (hn:n < w.bs.length) (hst:stA w.t n=false) (bs:List Bx):rcvL w (sentW w bs0) bs n=(trunkL w.t n).foldl (fun s p=>rcvP w s p (sntP w.t bs0 p)) bs:=by
 have hS:(sentW w bs0)[n]? = some (some (sends (bsA bs0 n))):=by
  rw [sentW,List.getElem?_map,List.getElem?_range hn,Option.map_some,sentAt,if_neg (by rw [hst]; simp)]; rfl
 obtain ⟨x,hx⟩:∃ x,bs0[n]? = some x:=⟨bs0[n]'(by rw [hv.1]; exact hn),by simp [hv.1,hn]⟩
 obtain ⟨_,hb⟩:=hv.2 n x hx hst
 have hbx:bsA bs0 n=x.b:=by simp [bsA,hx]
 rw [rcvL,hS]
 simp only [Option.getD_some]
 have hl:(sends (bsA bs0 n)).length=(trunkL w.t n).length:=by rw [hbx,sends]; simp [hb.ports]
 rw [hl]
 refine fold_get (fun s i p=>rcvP w s p ((sends (bsA bs0 n))[i]?.getD zH)) _ _ (fun s i p hp=>?_) bs
 have hm:=mem_trunk.1 (List.mem_of_getElem? hp)
 have hi:i < (trunkL w.t n).length:=(List.getElem?_eq_some_iff.1 hp).1
 have hpl:i < (bsA bs0 n).ports.length:=by rw [hbx,hb.ports]; simpa using hi
 have:(sends (bsA bs0 n))[i]?.getD zH=sntP w.t bs0 p:=by
  rw [sntP,hm.2.1,Int.toNat_natCast,ixP_at hp]
  simp [sends,hpl]
 simp only [this]
def trunkAll (w:Nw):List Nat:=(List.range w.bs.length).flatMap (fun n=>if stA w.t n=true then [] else trunkL w.t n)
theorem mem_trunkAll {p:Nat}:p∈trunkAll w↔trP w.t p:=by
 simp only [trunkAll,List.mem_flatMap,List.mem_range]
 constructor
 ·rintro ⟨n,hn,h⟩
  split at h
  ·cases h
  ·rename_i hs
   exact trP_of (by simpa using hs) h
 ·intro h
  have hn:=frP_node hok h.1
  obtain ⟨h1,h2⟩:=hn
  refine ⟨(frP w.t p).toNat,by omega,?_⟩
  rw [if_neg (by rw [h.2.1]; simp)]
  have:=trP_mem h
  rwa [show (((frP w.t p).toNat:Nat):Int)=frP w.t p by omega]
omit hok hbl in
theorem trunkAll_nodup:(trunkAll w).Pairwise (· ≠ ·):=by
 rw [trunkAll,List.pairwise_flatMap]
 refine ⟨fun n _=>?_,?_⟩
 ·split
  ·exact .nil
  ·exact (trunk_sorted w.t n).imp (fun h=>by omega)
 ·refine List.pairwise_lt_range.imp (fun {a b} hab x hx y hy=>?_)
  split at hx
  ·cases hx
  split at hy
  ·cases hy
  have h1:=(mem_trunk.1 hx).2.1
  have h2:=(mem_trunk.1 hy).2.1
  intro he
  rw [he,h2] at h1
  omega
omit hok hbl in
theorem tk_fold (bs:List Bx):∀ k,k≤bs.length→((List.range k).foldl (stS w.t tkL) bs).length=bs.length∧∀ n,((List.range k).foldl (stS w.t tkL) bs)[n]? = if n < k∧stA w.t n=false then (bs[n]?).map (fun x=>tkB x.b) else bs[n]?:=by
 intro k
 induction k with
 | zero=>intro _; exact ⟨rfl,fun n=>by rw [if_neg (fun h=>by omega)]; rfl⟩
 | succ k ih =>
  intro hk
  obtain ⟨i1,i2⟩:=ih (by omega)
  rw [List.range_succ,List.foldl_append,List.foldl_cons,List.foldl_nil]
  generalize (List.range k).foldl (stS w.t tkL) bs=S at *
  unfold stS
  by_cases hs:stA w.t k=true
  ·rw [if_pos hs]
   refine ⟨i1,fun n=>?_⟩
   rw [i2 n]
   by_cases hn:n=k
   ·subst hn; rw [if_neg (fun h=>by omega),if_neg (fun h=>by rw [hs] at h; cases h.2)]
   ·have:(n < k+1∧stA w.t n=false)↔(n < k∧stA w.t n=false):=by constructor <;> rintro ⟨h1,h2⟩ <;> exact ⟨by omega,h2⟩
    simp only [this]
  ·rw [if_neg hs]
   have hs':stA w.t k=false:=by simpa using hs
   refine ⟨by simp [tkL,i1],fun n=>?_⟩
   by_cases hn:n=k
   ·subst hn
    have h0:=i2 n
    rw [if_neg (fun h=>by omega)] at h0
    rw [if_pos ⟨by omega,hs'⟩,tkL,List.getElem?_set_self (by omega),h0]
    have:n < bs.length:=by omega
    simp [this]
   ·rw [tkL,List.getElem?_set_ne (fun h=>hn h.symm),i2 n]
    have:(n < k+1∧stA w.t n=false)↔(n < k∧stA w.t n=false):=by constructor <;> rintro ⟨h1,h2⟩ <;> exact ⟨by omega,h2⟩
    simp only [this]
omit hok hbl in
theorem tick_hrd (b:Br) (i:Nat):hrd (putB b (b.heard.map tickH)) i=tickH (hrd b i):=by
 simp only [hrd,putB,List.getElem?_map]
 cases b.heard[i]? with
 | none=>rfl
 | some x=>rfl
theorem rnd_at {bs:List Bx} (hv:vBs w bs):vBs w (rndL w bs)∧(∀ n,stA w.t n=true→(rndL w bs)[n]? = bs[n]?) ∧
  ∀ q,trP w.t q→hAt w.t (rndL w bs) q=tickH (if (sntP w.t bs (bk q)).is=true∧dnA w (q / 2)=false then rcvH (hAt w.t bs q) (sntP w.t bs (bk q)) else hAt w.t bs q):=by
 have hsnt:∀ p,trP w.t p→(sntP w.t bs p).is=true→helloP (sntP w.t bs p):=by
  intro p hp hi
  obtain ⟨n,x,h1,h2,h3,h4,h5,h6,h7,h8⟩:=vBs_at hok hbl hv hp
  have h9:=okB_len h6.ok
  simp only [okL] at h9
  simp only [sntP,h1,Int.toNat_natCast,h4] at hi ⊢
  unfold sentF at hi ⊢
  split at hi
  ·rename_i h; rw [if_pos h]; exact clm_ok h6.ok (by omega)
  ·exact (by cases hi)
 have e1:(List.range w.bs.length).foldl (stS w.t (rcvL w (sentW w bs))) bs=(trunkAll w).foldl (fun s p=>rcvP w s p (sntP w.t bs p)) bs:=by
  refine fold_flat _ _ (fun s n hn=>?_)
  unfold stS
  by_cases hs:stA w.t n=true
  ·rw [if_pos hs,if_pos hs]; rfl
  ·rw [if_neg hs,if_neg hs]
   exact rcvL_eq hv (List.mem_range.1 hn) (by simpa using hs) s
 obtain ⟨r1,r2,r3⟩:=rcv_fold hok hbl (sntP w.t bs) hsnt (trunkAll w) trunkAll_nodup (fun p hp=>(mem_trunkAll hok hbl).1 hp) bs hv
 rw [← e1] at r1 r2 r3
 have e2:rndL w bs=(List.range w.bs.length).foldl (stS w.t tkL) ((List.range w.bs.length).foldl (stS w.t (rcvL w (sentW w bs))) bs):=rfl
 rw [e2]
 generalize (List.range w.bs.length).foldl (stS w.t (rcvL w (sentW w bs))) bs=B1 at *
 obtain ⟨t1,t2⟩:=tk_fold (w:=w) B1 w.bs.length (by rw [r1.1]; exact Nat.le_refl _)
 have hv2:vBs w ((List.range w.bs.length).foldl (stS w.t tkL) B1):=by
  refine ⟨by rw [t1,r1.1],fun n x hx hs=>?_⟩
  rw [t2 n] at hx
  have hn:n < w.bs.length:=by
   refine Classical.byContradiction fun hn=>?_
   rw [if_neg (fun h=>hn h.1),List.getElem?_eq_none (by rw [r1.1]; omega)] at hx
   cases hx
  rw [if_pos ⟨hn,hs⟩,Option.map_eq_some_iff] at hx
  obtain ⟨y,hy,rfl⟩:=hx
  exact ⟨rfl,(r1.2 n y hy hs).2.tick⟩
 refine ⟨hv2,fun n hn=>?_,fun q hq=>?_⟩
 ·rw [t2 n,if_neg (fun h=>by rw [hn] at h; cases h.2),r2 n hn]
 ·obtain ⟨n,x,h1,h2,h3,h4,h5,h6,h7,h8⟩:=vBs_at hok hbl r1 hq
  have hst:stA w.t n=false:=by have:=hq.2.1; rwa [h1,Int.toNat_natCast] at this
  have h9:=r3 q hq
  have:(bk q∈trunkAll w∧(sntP w.t bs (bk q)).is=true∧dnA w (q / 2)=false)↔((sntP w.t bs (bk q)).is=true∧dnA w (q / 2)=false):=⟨fun h=>h.2,fun h=>⟨(mem_trunkAll hok hbl).2 (trP_bk hq),h⟩⟩
  simp only [this] at h9
  rw [← h9]
  simp only [hAt,h1,Int.toNat_natCast]
  have e3:bsA ((List.range w.bs.length).foldl (stS w.t tkL) B1) n=putB x.b (x.b.heard.map tickH):=by
   rw [bsA,t2 n,if_pos ⟨h2,hst⟩,h3]; rfl
  rw [e3,tick_hrd,h4]
end
end Go.Proofs.Ytbibdnlbpjnieaa
