/- Part 22 of the proof of TreeNews. -/
import Derived.Test.YtbibdnlbpjnieaaGreatN21
set_option linter.all false
set_option maxRecDepth 100000
set_option maxHeartbeats 4000000
namespace Go.Proofs.YtbibdnlbpjnieaaGreat
open Go Go.Abs
def fgB (b:Br) (i:Nat):Bx:=⟨false,true,true,true,putB b (b.heard.set i zH)⟩
def fgQ (w:Nw) (j n:Nat) (s:List Bx × Nat) (i:Nat) (p:Nat):List Bx × Nat:=if p / 2=j then (s.1.set n (fgB (s.1[n]?.getD zBx).b i),w.bs.length) else s
def fgN (w:Nw) (j:Nat) (s:List Bx × Nat) (n:Nat):List Bx × Nat:=(List.range (trunkL w.t n).length).foldl (fun s i=>fgQ w j n s i ((trunkL w.t n)[i]?.getD 0)) s
theorem okH_no:okH zH:=⟨fun h=>((by cases h)),fun _=>rfl⟩
theorem VB.forget {w:Nw} {n:Nat} {b:Br} (h:VB w n b) (i:Nat):VB w n (putB b (b.heard.set i zH)):=by
 refine h.put (by simp) fun x hx=>?_
 rcases List.mem_or_eq_of_mem_set hx with h1|rfl
 ·exact okB_all h.ok x h1
 ·exact okH_no
theorem fgQ_ok {w:Nw} {j n i p:Nat} {s:List Bx × Nat} (h:vBs w s.1) (h2:s.2≤w.bs.length) (hst:stA w.t n=false):vBs w (fgQ w j n s i p).1∧(fgQ w j n s i p).2≤w.bs.length:=by
 unfold fgQ
 split
 ·refine ⟨⟨by simpa using h.1,fun m x hx hs=>?_⟩,Nat.le_refl _⟩
  simp only [List.getElem?_set] at hx
  split at hx
  ·rename_i hm
   split at hx
   ·rename_i hlt
    obtain rfl:=Option.some.inj hx
    subst hm
    obtain ⟨y,hy⟩:∃ y,s.1[n]? = some y:=⟨s.1[n]'hlt,by simp [hlt]⟩
    obtain ⟨_,hv⟩:=h.2 n y hy hst
    rw [hy]
    exact ⟨rfl,hv.forget _⟩
   ·cases hx
  ·exact h.2 m x hx hs
 ·exact ⟨h,h2⟩
theorem fgN_ok {w:Nw} {j n:Nat} {s:List Bx × Nat} (h:vBs w s.1) (h2:s.2≤w.bs.length) (hst:stA w.t n=false):vBs w (fgN w j s n).1∧(fgN w j s n).2≤w.bs.length:=by
 unfold fgN
 generalize (trunkL w.t n).length=k
 induction k with
 | zero=>exact ⟨h,h2⟩
 | succ k ih =>
  rw [List.range_succ,List.foldl_append,List.foldl_cons,List.foldl_nil]
  exact fgQ_ok ih.1 ih.2 hst
noncomputable def lpCu (rf:Code × Code) (E:FEnv) (busy:Bool):AObj:=.loop 23 (lpEnv 77 (tidyF (some [3,4,5,7]) E)) [39,40] rf.1 rf.2 busy none
noncomputable def hpCu (w:Nw) (j:Nat) (rf:Code × Code) (E:FEnv) (busy:Bool) (s:List Bx × Nat):Heap :=
 [.row 6 [.t zN6] 0,.row 1 [.t (I 0)] 0,.row 6 [.agg (nwA 3 5 w)] 1,.row 1 (((w.down.set j true).map B).map .t) w.down.length,.row 6 [.agg (nwA 3 5 w)] 1,bsRow s.1 s.2,.row 6 [.agg (nwA 3 5 w)] 1,.row 6 [.agg (nwA 3 5 w)] 0,lpCu rf E busy]
theorem lpCu_frz (j:Nat) (rf:Code × Code) (E:FEnv) (hE:E 3=.t (.ip [I (j:Nat)])∧E 4=.ref 0 1 0 0∧E 5=.ref 1 1 0 0∧E 7=.ref 6 1 0 0) (busy:Bool) (h:Heap) (q:Nat) (hq:9≤q):frzObj h (fromB q) (lpCu rf E busy)=some (lpCu rf E busy):=by
 have f0:decide (q≤0)=false:=decide_eq_false (by omega)
 have f1:decide (q≤1)=false:=decide_eq_false (by omega)
 have f7:decide (q≤6)=false:=decide_eq_false (by omega)
 rw [lpCu,frz_loop]
 simp only [go_sem,hE,f0,f1,f7]
theorem hpCu_frz (w:Nw) (j:Nat) (rf:Code × Code) (E:FEnv) (hE:E 3=.t (.ip [I (j:Nat)])∧E 4=.ref 0 1 0 0∧E 5=.ref 1 1 0 0∧E 7=.ref 6 1 0 0) (busy:Bool) (s:List Bx × Nat) (h:Heap) (q:Nat) (hq:9≤q):mapO (frzObj h (fromB q)) (hpCu w j rf E busy s)=some (hpCu w j rf E busy s):=by
 have f4:decide (q≤3)=false:=decide_eq_false (by omega)
 have f6:decide (q≤5)=false:=decide_eq_false (by omega)
 have a1:avoidAll (fromB q) [.agg (nwA 3 5 w)]=true:=by simp [nwA,avoidAll,avoid,fromB,f4,f6]
 have a4:∀ x:T,avoidAll (fromB q) [.t x]=true:=fun x=>by simp [avoidAll,avoid]
 simp only [hpCu,bsRow,mapO,lpCu_frz j rf E hE busy h q hq,frz_mapA,frz_rowA a1,frz_rowA (a4 _)]
theorem cut_l0 (w:Nw) (hok:okT w.t=true) (hbl:(w.bs.length:Int)=w.t.nodes) (j:Nat) (rf:Code × Code) (E:FEnv) (hE:E 3=.t (.ip [I (j:Nat)])∧E 4=.ref 0 1 0 0∧E 5=.ref 1 1 0 0∧E 7=.ref 6 1 0 0) (c1 c2 c3:Bool) (b:Br) (n:Nat) (hn:n < w.bs.length) (hpo:b.ports=(trunkL w.t n).map ofN) (hnn:stA w.t n=false)
  (s:List Bx × Nat) (hv:vBs w s.1) (hmr:s.2≤w.bs.length) (dd nn:Nat) (hnn':200 < nn) (R:Xit→FEnv→Heap→Prop) (e:FEnv)
  (he:e 3=.t (.ip [I (j:Nat)])∧e 4=.ref 0 1 0 0∧e 5=.ref 1 1 0 0∧e 7=.ref 6 1 0 0∧e 8=.t (I (n:Nat))∧e 42=.t (.sl c1 1 (b.ports.map I))∧e 43=.t (I (b.ports.length:Nat))∧e 44=.t (I 0))
  (hR:∀ e,(e 3=.t (.ip [I (j:Nat)])∧e 4=.ref 0 1 0 0∧e 5=.ref 1 1 0 0∧e 7=.ref 6 1 0 0)→R (.exit 2) e (hpCu w j rf E true (fgN w j s n)++[.row 5 [.t (.agg (brC c1 c2 c3 b))] 1,.row 5 [.t (.agg (brC c1 c2 c3 b))] 1])) :
  wpIter 11 (some [3,4,5,7,8,42,43,44]) (wc Tryz.prog pol (ans Tryz.prog pol) (inl Tryz.prog pol (ans Tryz.prog pol) nn dd) nn 23 il23l0) R nn e (hpCu w j rf E true s++[.row 5 [.t (.agg (brC c1 c2 c3 b))] 1,.row 5 [.t (.agg (brC c1 c2 c3 b))] 1]):=by
 obtain ⟨z1,z2,z3⟩:=okT_size hok
 have htl:=trunk_len w.t n
 refine loop_range b.ports I (step:=fun i p s=>.go (fgQ w j n s i ((trunkL w.t n)[i]?.getD 0))) (fin:=id)
  (St:=fun i s e h=>(e 3=.t (.ip [I (j:Nat)])∧e 4=.ref 0 1 0 0∧e 5=.ref 1 1 0 0∧e 7=.ref 6 1 0 0∧e 8=.t (I (n:Nat))∧e 42=.t (.sl c1 1 (b.ports.map I))∧e 43=.t (I (b.ports.length:Nat))∧e 44=.t (I (i:Nat)))∧(vBs w s.1∧s.2≤w.bs.length)∧h=hpCu w j rf E true s++[.row 5 [.t (.agg (brC c1 c2 c3 b))] 1,.row 5 [.t (.agg (brC c1 c2 c3 b))] 1])
  (Ex:=fun s x e h=>(e 3=.t (.ip [I (j:Nat)])∧e 4=.ref 0 1 0 0∧e 5=.ref 1 1 0 0∧e 7=.ref 6 1 0 0)∧x=.exit 2∧h=hpCu w j rf E true s++[.row 5 [.t (.agg (brC c1 c2 c3 b))] 1,.row 5 [.t (.agg (brC c1 c2 c3 b))] 1]) (s:=s) (by rw [hpo]; simp; omega) ?_ ?_ (by rw [hpo]; simp; omega) ⟨he,⟨hv,hmr⟩,rfl⟩ ?_
 ·intro i p ss e hp Y R hm hi hx hget hlt hw ⟨hs',⟨hv,hmr⟩,hhp⟩ hk
  subst hhp
  have hv2:=fgQ_ok (w:=w) (j:=j) (n:=n) (i:=i) (p:=(trunkL w.t n)[i]?.getD 0) hv hmr hnn
  obtain ⟨s,mr⟩:=ss
  dsimp only at hv hmr
  simp only [ctlK_go] at hk
  obtain ⟨q,hq,hpq⟩:∃ q,(trunkL w.t n)[i]? = some q∧p=ofN q:=by
   rw [hpo,List.getElem?_map,Option.map_eq_some_iff] at hx
   obtain ⟨q,h1,h2⟩:=hx
   exact ⟨q,h1,h2.symm⟩
  subst hpq
  rw [hq] at hk hv2
  simp only [Option.getD_some] at hk hv2
  have v2:IntKind.i64.wrap (Int.tdiv (q:Nat) 2)=((q / 2:Nat):Int):=by rw [tdiv2]; exact wrap_i64 (by omega) (by have:=trunk_lt (List.mem_of_getElem? hq); omega)
  have fzl:∀ hx:Heap,frzObj hx (fromB 11) (lpCu rf E true)=some (lpCu rf E true):=fun hx=>lpCu_frz j rf E hE true hx 11 (by omega)
  have hi':i < b.ports.length:=hi
  simp only [hpCu,List.cons_append,List.nil_append,nwA,bsRow] at hk ⊢
  by_cases hqj:q / 2=j
  ·have d1:decide (((q / 2:Nat):Int)=(j:Nat))=true:=decide_eq_true (by omega)
   obtain ⟨y,hy⟩:∃ y,s[n]? = some y:=⟨s[n]'(by rw [hv.1]; exact hn),by simp [hv.1,hn]⟩
   obtain ⟨yz,yv⟩:=hv.2 n y hy hnn
   have hr:fgQ w j n (s,mr) i q=(s.set n (fgB y.b i),w.bs.length):=by rw [fgQ,if_pos hqj]; simp only [hy,Option.getD_some]
   rw [hr] at hk hv2
   obtain ⟨yz',x1,x2,x3,yb⟩:=y
   dsimp only at yz yv hk hv2
   subst yz
   have k4:=Forget_ok x1 x2 x3 yb i yv.ok (by rw [yv.ports,← hpo]; exact hi)
   have gx:((s.map encX).map AV.t)[n]? = some (.t (.agg (brC x1 x2 x3 yb))):=map_get (enc:=encX) hy
   have hsl:((s.map encX).map AV.t).length=w.bs.length:=by simp [hv.1]
   have hset:=map_set (enc:=encX) (l:=s) (i:=n) (x:=fgB yb i)
   have hex:encX (fgB yb i)=brT true true true (putB yb (yb.heard.set i zH)):=rfl
   rw [hex] at hset
   have hav:∀ (q:Nat→Bool) (y:T),avoidAll q (((s.map encX).map AV.t).set n (.t y))=true:=fun q y=>by rw [← List.map_set,av_map]
   rw [← hset] at hk
   generalize putB yb (yb.heard.set i zH)=B' at *
   (repeat' first|simp only [il23l0_go,il23l0b,go_sem,hs',hget,hlt,hw,ofN,v2,d1,k4,gx,hsl,hn,hmr,hav,frz_mapA,fzl]|(with_reducible first|apply wD|apply wT|(apply wM; intro)|(apply wL; intro))|((with_reducible first|refine wA ?_ ?_|refine wE ?_); rfl))
   all_goals (refine hk _ _ ⟨?_,hv2,?_⟩ <;> simp only [go_sem,hs',hw])
  ·have d1:decide (((q / 2:Nat):Int)=(j:Nat))=false:=decide_eq_false (by omega)
   have hr:fgQ w j n (s,mr) i q=(s,mr):=by rw [fgQ,if_neg hqj]
   rw [hr] at hk
   (repeat' first|simp only [il23l0_go,il23l0b,go_sem,hs',hget,hlt,hw,ofN,v2,d1,frz_mapA,fzl]|(with_reducible first|apply wD|apply wT|(apply wM; intro)|(apply wL; intro))|((with_reducible first|refine wA ?_ ?_|refine wE ?_); rfl))
   all_goals (refine hk _ _ ⟨?_,⟨hv,hmr⟩,?_⟩ <;> simp only [go_sem,hs',hw])
 ·intro s e h Y R hlt ⟨hs',_,hh⟩ hk
  subst hh
  (repeat' first|simp only [il23l0_go,il23l0b,go_sem,hs',hlt]|(with_reducible first|apply wD|apply wT|(apply wM; intro)|(apply wL; intro))|((with_reducible first|refine wA ?_ ?_|refine wE ?_); rfl))
  all_goals (refine hk _ _ _ ⟨?_,rfl,rfl⟩; simp only [go_sem,hs',id])
 ·intro x e h ⟨h1,h2,h3⟩
  have hf:∀ (r:List Int) (i:Nat) (s:List Bx × Nat),foldC (ρ:=List Bx × Nat) (fun i _ s=>Ctl.go (fgQ w j n s i ((trunkL w.t n)[i]?.getD 0))) id i r s=(List.range' i r.length).foldl (fun s k=>fgQ w j n s k ((trunkL w.t n)[k]?.getD 0)) s:=by
   intro r
   induction r with
   | nil=>intro i s; rfl
   | cons x r ih =>
    intro i s
    rw [foldC_go (s':=fgQ w j n s i ((trunkL w.t n)[i]?.getD 0)) rfl,ih,List.length_cons,List.range'_succ,List.foldl_cons]
  rw [hf,← List.range_eq_range'] at h3
  have hlen:b.ports.length=(trunkL w.t n).length:=by rw [hpo]; simp
  rw [hlen] at h3
  have hgo:h=hpCu w j rf E true (fgN w j s n)++[.row 5 [.t (.agg (brC c1 c2 c3 b))] 1,.row 5 [.t (.agg (brC c1 c2 c3 b))] 1]:=h3
  subst h2 hgo
  exact hR _ h1
theorem cut_yield (rf:Code × Code) (hrf:rfOf Tryz.prog 23 0=rf) (w:Nw) (hok:okT w.t=true) (hbl:(w.bs.length:Int)=w.t.nodes) (j:Nat)
  (E:FEnv) (hE:E 3=.t (.ip [I (j:Nat)])∧E 4=.ref 0 1 0 0∧E 5=.ref 1 1 0 0∧E 7=.ref 6 1 0 0) (s:List Bx × Nat) (hv:vBs w s.1) (hmr:s.2≤w.bs.length) (n:Nat) (x:Bx) (hx:s.1[n]? = some x) (hst:stA w.t n=false) (dd nn:Nat) (hn:200 < nn) (Q:AV→Heap→Prop)
  (hQ:∀ X',Q (.t (B true)) (hpCu w j rf E false (fgN w j s n)++[.row 5 [.t (.agg (bxC x))] 1]++X')) :
  oB (inl Tryz.prog pol (ans Tryz.prog pol) nn (dd+1) (.yl 8) [.t (I (n:Nat)),.t (.agg (bxC x))] (hpCu w j rf E false s++[.row 5 [.t (.agg (bxC x))] 1])) Q:=by
 subst hrf
 obtain ⟨xz,xv⟩:=hv.2 n x hx hst
 have hnl:n < w.bs.length:=by rw [← hv.1]; exact (List.getElem?_eq_some_iff.1 hx).1
 obtain ⟨z,c1,c2,c3,b⟩:=x
 dsimp only at xz xv hQ
 subst xz
 have hbc:bxC ⟨false,c1,c2,c3,b⟩=brC c1 c2 c3 b:=rfl
 rw [hbc] at hQ ⊢
 have hq:=hQ [.row 5 [.t (.agg (brC c1 c2 c3 b))] 1]
 have key:([.row 6 [.t zN6] 0,.row 1 [.t (I 0)] 0,.row 6 [.agg (nwA 3 5 w)] 1,.row 1 (((w.down.set j true).map B).map .t) w.down.length,.row 6 [.agg (nwA 3 5 w)] 1,bsRow s.1 s.2,.row 6 [.agg (nwA 3 5 w)] 1,.row 6 [.agg (nwA 3 5 w)] 0,.loop 23 (lpEnv 77 (tidyF (some [3,4,5,7]) E)) [39,40] (rfOf Tryz.prog 23 0).1 (rfOf Tryz.prog 23 0).2 true none,.row 5 [.t (.agg (brC c1 c2 c3 b))] 1,.row 5 [.t (.agg (brC c1 c2 c3 b))] 1]:Heap)
   = hpCu w j (rfOf Tryz.prog 23 0) E true s++[.row 5 [.t (.agg (brC c1 c2 c3 b))] 1,.row 5 [.t (.agg (brC c1 c2 c3 b))] 1]:=rfl
 have hR:=fun (R:Xit→FEnv→Heap→Prop) (e:FEnv) he hR=>cut_l0 w hok hbl j (rfOf Tryz.prog 23 0) E hE c1 c2 c3 b n hnl xv.ports hst s hv hmr dd nn hn R e he hR
 rw [← key] at hR
 generalize fgN w j s n=s2 at *
 simp only [hpCu,lpCu,List.cons_append,List.nil_append,nwA,bsRow] at hq hR ⊢
 with_reducible refine oB_yl (E:=tidyF (some [3,4,5,7]) E) rfl rfl rfl il23r0a_eq il23r0b_eq ?_
 (repeat' first|simp only [il23r0a,il23r0b,go_sem,hE]|(with_reducible first|apply wD|apply wT|(apply wM; intro)|(apply wL; intro))|((with_reducible first|refine wA ?_ ?_|refine wE ?_); rfl))
 with_reducible refine hR _ _ (by simp only [go_sem,hE]) ?_
 intro e he
 (repeat' first|simp only [il23r0b,go_sem,he]|(with_reducible first|apply wD|apply wT|(apply wM; intro)|(apply wL; intro))|((with_reducible first|refine wA ?_ ?_|refine wE ?_); rfl))
 all_goals exact hq
end Go.Proofs.YtbibdnlbpjnieaaGreat
namespace Go.Proofs.YtbibdnlbpjnieaaGreat
open Go Go.Abs
def fgL (w:Nw) (j:Nat) (s:List Bx) (n:Nat):List Bx:=(List.range (trunkL w.t n).length).foldl (fun s i=>if ((trunkL w.t n)[i]?.getD 0) / 2=j then s.set n (fgB (s[n]?.getD zBx).b i) else s) s
theorem fgN_fst (w:Nw) (j:Nat) (s:List Bx × Nat) (n:Nat):(fgN w j s n).1=fgL w j s.1 n:=fold_fst _ _ (fun s i=>by unfold fgQ; split <;> rfl) _ _
def cutL (w:Nw) (j:Nat):List Bx:=(List.range w.bs.length).foldl (stS w.t (fgL w j)) (w.bs.map cpX)
section
variable (f:Fl) (w:Nw) (k:Int) (hz:zOk w)
include hz
theorem Cut_arg (hok:okN w=true) (hk:k < 0∨(w.t.links.length:Int)≤k):ans Tryz.prog pol 23 [nwT f w,I k]=some (.tup [zN6,I 2]):=by
 have hO:=okN_ok hok hz
 obtain ⟨z1,z2,z3⟩:=okT_size hO.t
 have hpl:=rankL_len hO.rank
 have hbl:=hO.bl
 have hdl:=hO.dl
 have k1:=CheckN_ans f w hz (by omega) (by omega)
 rw [if_pos hok] at k1
 refine ans_go 2000 5 il23_eq (Nat.le_of_ble_eq_true rfl) ?_
 by_cases q:k < 0
 ·have d1:=decide_eq_true q
  (repeat' first|simp only [il23c,go_sem,k1,d1]|(with_reducible first|apply wD|apply wT|(apply wM; intro)|(apply wL; intro))|((with_reducible first|refine wA ?_ ?_|refine wE ?_); rfl))
 ·have d1:=decide_eq_false q
  have d2:decide (((w.down.length:Nat):Int)≤k)=true:=decide_eq_true (by omega)
  (repeat' first|simp only [il23c,go_sem,k1,d1,d2]|(with_reducible first|apply wD|apply wT|(apply wM; intro)|(apply wL; intro))|((with_reducible first|refine wA ?_ ?_|refine wE ?_); rfl))
theorem Cut_ok (hok:okN w=true) (j:Nat) (hj:j < w.t.links.length) (hb6:∀ x∈w.bs,x.b.ports.length≤900∧x.b.costs.length≤900∧x.b.heard.length≤900):ans Tryz.prog pol 23 [nwT f w,I (j:Nat)]=some (.tup [nwT ⟨false,false,false,false,true⟩ ⟨w.t,w.prios,w.down.set j true,cutL w j⟩,I 0]):=by
 have hO:=okN_ok hok hz
 obtain ⟨z1,z2,z3⟩:=okT_size hO.t
 have hpl:=rankL_len hO.rank
 have hbl:=hO.bl
 have hdl:=hO.dl
 have k1:=CheckN_ans f w hz (by omega) (by omega)
 rw [if_pos hok] at k1
 have hne:w.down≠[]:=by
  have h:=(links_ne hO.t)
  intro hd; rw [hd] at hdl; exact h (List.eq_nil_of_length_eq_zero hdl.symm)
 have d1:decide (((j:Nat):Int) < 0)=false:=decide_eq_false (by omega)
 have d2:decide (((w.down.length:Nat):Int)≤((j:Nat):Int))=false:=decide_eq_false (by omega)
 obtain ⟨nn,h2000⟩:∃ nn,2000 < nn:=⟨2001,by omega⟩
 have hn1:1000 < nn:=by omega
 have hn2:200 < nn:=by omega
 refine ans_go nn 5 il23_eq (Nat.le_of_ble_eq_true rfl) ?_
 simp only [il23c]
 generalize hrf:rfOf Tryz.prog 23 0=rf
 (repeat' first|simp only [List.cons_append,List.nil_append,go_sem,k1,d1,d2]|(with_reducible first|apply wD|apply wT|(apply wM; intro)|(apply wL; intro))|((with_reducible first|refine wA ?_ ?_|refine wE ?_); rfl))
 with_reducible refine copied_fresh f w hne (by omega) (by omega) (by omega) (by omega) (by omega) hb6 2 3 nn hn1 _ ?_
 intro mr hmr
 have a1:avoidAll (belowB 2) [.agg (nwA 3 5 w)]=true:=by simp [nwA,avoidAll,avoid,belowB]
 have hdl2:((w.down.map B).map AV.t).length=w.down.length:=by simp
 have hjd:j < w.down.length:=by omega
 obtain ⟨y,hy⟩:∃ y,w.down[j]? = some y:=⟨w.down[j]'hjd,by simp [hjd]⟩
 have gy:((w.down.map B).map AV.t)[j]? = some (.t (B y)):=map_get (enc:=B) hy
 have hset:=map_set (enc:=B) (l:=w.down) (i:=j) (x:=true)
 have hl3:((((w.down.set j true)).map B).map AV.t).length=w.down.length:=by simp
 have hv1:=vBs_cpX hO.vb
 simp only [nwA,dnRow,bsRow,Nat.reduceAdd] at a1 ⊢
 (repeat' first|simp only [freshK_app,List.replicate_succ,List.replicate_zero,List.drop_succ_cons,List.drop_zero,List.cons_append,List.nil_append,go_sem,av_map,a1,List.drop_succ_cons,List.drop_zero,hdl2,hjd,gy,hset,hl3,hmr]|(with_reducible first|apply wD|apply wT|(apply wM; intro)|(apply wL; intro))|((with_reducible first|refine wA ?_ ?_|refine wE ?_); rfl)|((with_reducible refine oB_inl il31_eq ?_ ?_); exact Nat.le_of_ble_eq_true rfl; simp only [il31c]))
 have key:∀ E:FEnv,([.row 6 [.t zN6] 0,.row 1 [.t (I 0)] 0,.row 6 [.agg (nwA 3 5 w)] 1,.row 1 (((w.down.set j true).map B).map .t) w.down.length,.row 6 [.agg (nwA 3 5 w)] 1,bsRow (w.bs.map cpX) mr,.row 6 [.agg (nwA 3 5 w)] 1,.row 6 [.agg (nwA 3 5 w)] 0,.loop 23 (lpEnv 77 (tidyF (some [3,4,5,7]) E)) [39,40] rf.1 rf.2 false none]:Heap)=hpCu w j rf E false (w.bs.map cpX,mr):=fun E=>rfl
 simp only [nwA,bsRow] at key
 rw [key]
 have h89:8 < 9:=by omega
 have h79:7 < 9:=by omega
 have h59:5 < 9:=by omega
 have h01:0≤1:=by omega
 have hI0:vBs w (w.bs.map cpX,mr).1∧(w.bs.map cpX,mr).2≤w.bs.length:=⟨hv1,hmr⟩
 have hb100:w.bs.length≤100:=by omega
 have hnx:∀ (s:List Bx × Nat) n,n < w.bs.length→stA w.t n=false→vBs w s.1∧s.2≤w.bs.length→vBs w (fgN w j s n).1∧(fgN w j s n).2≤w.bs.length:=fun s n _ hs h=>fgN_ok h.1 h.2 hs
 let σ:={ s:List Bx × Nat // vBs w s.1∧s.2≤w.bs.length }
 let nx:σ→Nat→σ:=fun s n=>if h:n < w.bs.length∧stA w.t n=false then ⟨fgN w j s.1 n,hnx s.1 n h.1 h.2 s.2⟩ else s
 have hnxv:∀ (s:σ) n,n < w.bs.length→stA w.t n=false→(nx s n).1=fgN w j s.1 n:=fun s n h1 h2=>by simp only [nx]; rw [dif_pos ⟨h1,h2⟩]
 have hstv:∀ (s:σ) n,n < w.bs.length→(stS w.t nx s n).1=stS w.t (fgN w j) s.1 n:=fun s n h1=>by
  unfold stS
  by_cases q:stA w.t n=true
  ·rw [if_pos q,if_pos q]
  ·rw [if_neg q,if_neg q]; exact hnxv s n h1 (by simpa using q)
 have hfv:∀ (s:σ) k,k≤w.bs.length→((List.range k).foldl (stS w.t nx) s).1=(List.range k).foldl (stS w.t (fgN w j)) s.1:=by
  intro s k
  induction k with
  | zero=>intro _; rfl
  | succ k ih =>
   intro hk
   rw [List.range_succ,List.foldl_append,List.foldl_append,List.foldl_cons,List.foldl_cons,List.foldl_nil,List.foldl_nil,hstv _ _ (by omega),ih (by omega)]
 have hLs:∀ s:σ,s.1.1.length=w.bs.length:=fun s=>by have h:=s.2.1; unfold vBs at h; exact h.1
 have hs0:∀ E:FEnv,hpCu w j rf E false (w.bs.map cpX,mr)=(fun s:σ=>hpCu w j rf E false s.1) ⟨(w.bs.map cpX,mr),hI0⟩:=fun E=>rfl
 rw [hs0]
 have hcl:cutL w j=((List.range w.bs.length).foldl (stS w.t (fgN w j)) (w.bs.map cpX,mr)).1:=by
  rw [fold_fst _ _ (stS_fst w.t (fgN w j) (fgL w j) (fgN_fst w j))]; rfl
 have hfin:=fold_ok hnx hI0 w.bs.length (Nat.le_refl _)
 with_reducible refine @all_iterR σ (fun s:σ=>hpCu w j rf _ false s.1) 9 (fun s=>rfl) nx 4 nn 8 (fun n s=>True) w (fun _ _ _ _=>trivial) ?_ h89 7 3 5 0 h79 h01 h59 (fun s=>s.1.1) (fun s=>s.1.2) hLs (fun s=>s.2.2) (fun _ _=>rfl) (fun _ _=>rfl) z2 hbl hb100 ?_ ⟨(w.bs.map cpX,mr),hI0⟩ trivial _ hn2 ?_
 ·intro s h q hq
  exact hpCu_frz w j rf _ (by simp only [go_sem]) false s.1 h q hq
 ·intro s n x Q hx hs _ hQ
  have hnl:n < w.bs.length:=by rw [← hLs s]; exact (List.getElem?_eq_some_iff.1 hx).1
  have hQ':∀ X',Q (.t (B true)) (hpCu w j rf _ false (nx s n).1++[.row 5 [.t (.agg (bxC x))] 1]++X'):=hQ
  rw [hnxv s n hnl hs] at hQ'
  with_reducible exact @cut_yield rf hrf w hO.t hbl j _ (by simp only [go_sem]) s.1 s.2.1 s.2.2 n x hx hs 3 nn hn2 Q hQ'
 ·intro v
  change rfEnd _ _ _ v (hpCu w j rf _ false ((List.range w.bs.length).foldl (stS w.t nx) ⟨(w.bs.map cpX,mr),hI0⟩).1)
  rw [hfv _ _ (Nat.le_refl _)]
  rw [hcl]
  generalize (List.range w.bs.length).foldl (stS w.t (fgN w j)) (w.bs.map cpX,mr)=s at *
  obtain ⟨hf1,hf2⟩:=hfin
  have hl4:((s.1.map encX).map AV.t).length=w.bs.length:=by simp [hf1.1]
  simp only [hpCu,lpCu,List.cons_append,List.nil_append,nwA,bsRow]
  (repeat' first|simp only [il23c,go_sem,frz_mapA,hl3,hl4,hf2]|(with_reducible first|apply wD|apply wT|(apply wM; intro)|(apply wL; intro))|((with_reducible first|refine wA ?_ ?_|refine wE ?_); rfl))
end
end Go.Proofs.YtbibdnlbpjnieaaGreat
namespace Go.Proofs.YtbibdnlbpjnieaaGreat
open Go Go.Abs
theorem trunks_fresh (f:Fl) (w:Nw) (n:Nat) (h:okT w.t=true) (hn:(n:Int) < w.t.nodes) (dd nn:Nat) (hnn:200 < nn) (Q:AV→Heap→Prop)
  (hQ:Q (.tup [.ms 10 (trunkL w.t n).length 0 (trunkL w.t n).length 1 false,.ms 11 (trunkL w.t n).length 0 (trunkL w.t n).length 1 false]) [.gone,.gone,.gone,.gone,.gone,.gone,.gone,.gone,.gone,.gone,rowG 1 I ((trunkL w.t n).map ofN),rowG 1 I (costL w.t n)]) :
  oB (inl Tryz.prog pol (ans Tryz.prog pol) nn (dd+1) (.fn 32) [.t (nwT f w),.t (I (n:Nat))] (List.replicate 10 .gone)) Q:=by
 obtain ⟨z1,z2,z3⟩:=okT_size h
 have k1:=nports_ans f w n h hn
 have hpl:=ports_len w.t n
 have hplt:=fun p=>@ports_lt w.t n p
 simp only [costL,trunkL] at hQ ⊢
 generalize portsL w.t n=L at *
 have hLl:(L.map ofN).length=L.length:=by simp
 with_reducible refine oB_inl il32_eq ?_ ?_
 ·exact Nat.le_of_ble_eq_true rfl
 simp only [List.replicate_succ,List.replicate_zero]
 (repeat' first|simp only [il32c,go_sem,k1,hLl]|(with_reducible first|apply wD|apply wT|(apply wM; intro)|(apply wL; intro))|((with_reducible first|refine wA ?_ ?_|refine wE ?_); rfl))
 refine loop_range L (fun p=>I (ofN p)) (step:=fun _ p (o:List Nat)=>.go (if innP w.t p=true then o++[p] else o)) (fin:=id)
  (St:=fun i o e h=>(e 2=.t (.ip (nwC f w))∧e 4=.ms 10 o.length 0 o.length 1 false∧e 5=.ms 11 o.length 0 o.length 1 false∧e 10=.t (.sl false 1 ((L.map ofN).map I))∧e 11=.t (I (L.length:Nat))∧e 12=.t (I (i:Nat)))∧o.length≤i∧h=[.gone,.gone,.gone,.gone,.gone,.gone,.gone,.gone,.gone,.gone,rowG 1 I (o.map ofN),rowG 1 I (o.map (perP w.t))])
  (Ex:=fun o x e h=>(e 4=.ms 10 o.length 0 o.length 1 false∧e 5=.ms 11 o.length 0 o.length 1 false)∧x=.exit 0∧h=[.gone,.gone,.gone,.gone,.gone,.gone,.gone,.gone,.gone,.gone,rowG 1 I (o.map ofN),rowG 1 I (o.map (perP w.t))]) (s:=[]) (by omega) ?_ ?_ (by omega) ?_ ?_
 ·intro i p o e h Y R hm hi hx hget hlt hw ⟨hs,ho,hh⟩ hk
  subst hh
  simp only [ctlK_go] at hk
  have hp:=hplt p hm
  have hget':((L.map ofN).map I)[i]? = some (I (ofN p)):=by simp [hx]
  have k2:=other_ans f w p h hp
  obtain ⟨g1,q1⟩:=st_get w.t z2 (toP_node h hp)
  have hj:p / 2 < w.t.links.length:=by omega
  have g2:(w.t.links.map encK)[p / 2]? = some (encK (lnk w.t (p / 2))):=by simp [lnk,hj]
  have v2:IntKind.i64.wrap (Int.tdiv (p:Nat) 2)=((p / 2:Nat):Int):=by rw [tdiv2]; exact wrap_i64 (by omega) (by omega)
  have hroom:(o.length+1)*8≤roomB:=ap_room (by omega) (by omega)
  have hl1:(o.map ofN).length=o.length:=by simp
  have hl2:(o.map (perP w.t)).length=o.length:=by simp
  have is1:rowIs 1 o.length (some (rowG 1 I (o.map ofN))):=by have:=rowG_is (k:=1) (enc:=I) (l:=o.map ofN); rwa [hl1] at this
  have is2:rowIs 1 o.length (some (rowG 1 I (o.map (perP w.t)))):=by have:=rowG_is (k:=1) (enc:=I) (l:=o.map (perP w.t)); rwa [hl2] at this
  have pu1:AObj.row 1 (((o.map ofN).map I).map .t++[.t (I (ofN p))]) 0=rowG 1 I ((o++[p]).map ofN):=by simp [rowG]
  have pu2:AObj.row 1 (((o.map (perP w.t)).map I).map .t++[.t (I (lnk w.t (p / 2)).per)]) 0=rowG 1 I ((o++[p]).map (perP w.t)):=by simp [rowG,perP]
  have hinn:innP w.t p = !stA w.t (toP w.t p).toNat:=rfl
  rw [hinn] at hk
  generalize lnk w.t (p / 2)=l at *
  cases hst:stA w.t (toP w.t p).toNat with
  | true =>
   rw [hst] at g1 hk
   simp only [Bool.not_true,Bool.false_eq_true,if_false] at hk
   (repeat' first|simp only [il32l0_go,il32l0b,go_sem,hs,hget',hlt,hw,ofN,k2,q1,g1,frz_rowG]|(with_reducible first|apply wD|apply wT|(apply wM; intro)|(apply wL; intro))|((with_reducible first|refine wA ?_ ?_|refine wE ?_); rfl))
   all_goals (refine hk _ _ ⟨?_,by omega,rfl⟩; simp only [go_sem,hs,hw,ofN])
  | false =>
   rw [hst] at g1 hk
   simp only [Bool.not_false,if_true] at hk
   simp only [ofN] at pu1
   (repeat' first|simp only [il32l0_go,il32l0b,go_sem,hs,hget',hlt,hw,ofN,k2,q1,g1,g2,encK_cells,v2,hroom,is1,is2,rowG_es,rowG_mr,pu1,pu2,frz_rowG]|(with_reducible first|apply wD|apply wT|(apply wM; intro)|(apply wL; intro))|((with_reducible first|refine wA ?_ ?_|refine wE ?_); rfl))
   all_goals (refine hk _ _ ⟨?_,by simp; omega,?_⟩ <;> simp only [go_sem,hs,hw,ofN,List.length_append])
 ·intro o e h Y R hlt ⟨hs,ho,hh⟩ hk
  subst hh
  (repeat' first|simp only [il32l0_go,il32l0b,go_sem,hs,hlt]|(with_reducible first|apply wD|apply wT|(apply wM; intro)|(apply wL; intro))|((with_reducible first|refine wA ?_ ?_|refine wE ?_); rfl))
  all_goals (refine hk _ _ _ ⟨?_,rfl,rfl⟩; simp only [go_sem,hs,id])
 ·refine ⟨?_,by simp,rfl⟩
  simp only [go_sem,List.map_map]
 ·intro x e h ⟨h1,h2,h3⟩
  have hf:∀ (l:List Nat) (i:Nat) (o:List Nat),foldC (ρ:=List Nat) (fun _ p o=>Ctl.go (if innP w.t p=true then o++[p] else o)) id i l o=o++l.filter (innP w.t):=by
   intro l
   induction l with
   | nil=>intro i o; simp [foldC]
   | cons p l ih =>
    intro i o
    rw [foldC_go (s':=if innP w.t p=true then o++[p] else o) rfl,ih,List.filter_cons]
    by_cases q:innP w.t p=true
    ·simp [q]
    ·simp [q]
  rw [hf,List.nil_append] at h1 h3
  subst h2 h3
  generalize L.filter (innP w.t)=o at *
  have hl1:(o.map ofN).length=o.length:=by simp
  have hl2:(o.map (perP w.t)).length=o.length:=by simp
  have is1:rowIs 1 o.length (some (rowG 1 I (o.map ofN))):=by have:=rowG_is (k:=1) (enc:=I) (l:=o.map ofN); rwa [hl1] at this
  have is2:rowIs 1 o.length (some (rowG 1 I (o.map (perP w.t)))):=by have:=rowG_is (k:=1) (enc:=I) (l:=o.map (perP w.t)); rwa [hl2] at this
  (repeat' first|simp only [il32c,go_sem,h1,is1,is2,rowG_es,rowG_mr]|(with_reducible first|apply wD|apply wT|(apply wM; intro)|(apply wL; intro))|((with_reducible first|refine wA ?_ ?_|refine wE ?_); rfl))
  all_goals exact hQ
theorem filter_half (fr:Nat→Int) (n:Int):∀ L:Nat,(∀ i,i < L→(fr (2*i)=n→fr (2*i+1)≠n))→((List.range (2*L)).filter (fun p=>decide (fr p=n))).length≤L:=by
 intro L
 induction L with
 | zero=>intro _; simp
 | succ L ih =>
  intro hh
  have h1:=ih (fun i hi=>hh i (by omega))
  rw [show 2*(L+1)=(2*L+1)+1 by omega,List.range_succ,List.range_succ,List.filter_append,List.filter_append]
  simp only [List.length_append]
  have h2:=hh L (by omega)
  by_cases q:fr (2*L)=n
  ·have q2:=h2 q
   simp [q,q2]
   omega
  ·by_cases q2:fr (2*L+1)=n
   ·simp [q,q2]; omega
   ·simp [q,q2]; omega
end Go.Proofs.YtbibdnlbpjnieaaGreat
namespace Go.Proofs.YtbibdnlbpjnieaaGreat
open Go Go.Abs
theorem trunk_24 {t:Tpo} (h:okT t=true) (n:Int):(trunkL t n).length≤24:=by
 obtain ⟨z1,z2,z3⟩:=okT_size h
 refine Nat.le_trans (Nat.le_trans (List.length_filter_le _ _) (filter_half (frP t) n t.links.length fun i hi h1 h2=>?_)) z3
 have he:=(ends_at h hi).2.2
 have e1:2*i / 2=i:=by omega
 have e2:(2*i+1) / 2=i:=by omega
 have e3:2*i % 2=0:=by omega
 have e4:¬ (2*i+1) % 2=0:=by omega
 rw [frP,e1,if_pos e3] at h1
 rw [frP,e2,if_neg e4] at h2
 exact he (h1.trans h2.symm)
theorem trunk_sorted (t:Tpo) (n:Int):(trunkL t n).Pairwise (· < ·):=(List.Pairwise.filter _ (List.Pairwise.filter _ List.pairwise_lt_range))
theorem per_ok {t:Tpo} (h:okT t=true) {p:Nat} (hp:p < 2*t.links.length):1≤perP t p∧perP t p≤1000:=by
 simp only [okT,Bool.and_eq_true] at h
 have h1:=sound_lk h.2.1 (i:=p / 2) (by omega)
 simp only [lkOk,lk4,Bool.and_eq_true,decide_eq_true_eq] at h1
 exact h1.2.2.2.1
def newN (w:Nw) (n:Nat):Bx:=⟨false,true,true,true,newB (prA w n) (n:Nat) ((trunkL w.t n).map ofN) (costL w.t n)⟩
theorem newN_ok {w:Nw} (h:okT w.t=true) (hr:rankL w.t w.prios=true) {n:Nat} (hn:(n:Int) < w.t.nodes):VB w n (newN w n).b:=by
 obtain ⟨z1,z2,z3⟩:=okT_size h
 refine ⟨?_,rfl,rfl,rfl,rfl⟩
 have hl:=trunk_24 h (n:Nat)
 have hpr:0≤prA w n∧prA w n≤15:=by
  have hpl:=rankL_len hr
  simp only [rankL,Bool.and_eq_true,List.all_eq_true,decide_eq_true_eq] at hr
  have hlt:n < w.prios.length:=by omega
  have:=hr.2 w.prios[n] (List.getElem_mem hlt)
  simpa [prA,hlt] using this
 have hL:okL (newB (prA w n) (n:Nat) ((trunkL w.t n).map ofN) (costL w.t n)):=⟨by simpa [newB] using hl,by simp [newB,costL],by simp [newB]⟩
 have hB:bidP (prA w n) (n:Nat):=⟨hpr,by omega,by omega⟩
 rw [okB,Bool.and_eq_true,Bool.and_eq_true]
 refine ⟨⟨decide_eq_true hL,decide_eq_true hB⟩,?_⟩
 simp only [newN,newB,List.all_eq_true,List.mem_range]
 intro i hi
 simp only [List.length_map] at hi
 obtain ⟨p,hp⟩:∃ p,(trunkL w.t n)[i]? = some p:=⟨(trunkL w.t n)[i]'hi,by simp [hi]⟩
 have hpt:=List.mem_of_getElem? hp
 have hplt:=trunk_lt hpt
 have hc:=per_ok h hplt
 simp only [okAt,decide_eq_true_eq,prt,cst,hrd,List.getElem?_map,costL,hp,Option.map_some,Option.getD_some,ofN]
 refine ⟨by omega,?_,hc,?_⟩
 ·intro hi0
  obtain ⟨q,hq⟩:∃ q,(trunkL w.t n)[i - 1]? = some q:=⟨(trunkL w.t n)[i - 1]'(by omega),by simp [show i - 1 < (trunkL w.t n).length by omega]⟩
  simp only [hq,Option.map_some,Option.getD_some,ofN]
  have hs:=List.pairwise_iff_getElem.1 (trunk_sorted w.t n) (i - 1) i (by omega) hi (by omega)
  rw [List.getElem?_eq_some_iff] at hp hq
  obtain ⟨_,rfl⟩:=hp
  obtain ⟨_,rfl⟩:=hq
  omega
 ·rw [List.length_map]
  simp only [List.getElem?_replicate,hi,if_true,Option.getD_some]
  exact okH_no
end Go.Proofs.YtbibdnlbpjnieaaGreat
namespace Go.Proofs.YtbibdnlbpjnieaaGreat
open Go Go.Abs
def nwN (w:Nw) (s:List Bx × Nat) (n:Nat):List Bx × Nat:=(s.1.set n (newN w n),w.bs.length)
noncomputable def lpNw (rf:Code × Code) (E:FEnv) (busy:Bool):AObj:=.loop 8 (lpEnv 66 (tidyF (some [4,5,7]) E)) [37,38] rf.1 rf.2 busy none
noncomputable def hpNw (w:Nw) (rf:Code × Code) (E:FEnv) (busy:Bool) (s:List Bx × Nat):Heap :=
 [.row 6 [.t zN6] 0,.row 1 [.t (I 0)] 0,.row 6 [.agg (nwA 3 5 w)] 1,dnRow w,.row 6 [.agg (nwA 3 5 w)] 1,bsRow s.1 s.2,.row 6 [.agg (nwA 3 5 w)] 1,.row 6 [.agg (nwA 3 5 w)] 0,lpNw rf E busy]
theorem lpNw_frz (rf:Code × Code) (E:FEnv) (hE:E 4=.ref 0 1 0 0∧E 5=.ref 1 1 0 0∧E 7=.ref 6 1 0 0) (busy:Bool) (h:Heap) (q:Nat) (hq:9≤q):frzObj h (fromB q) (lpNw rf E busy)=some (lpNw rf E busy):=by
 have f0:decide (q≤0)=false:=decide_eq_false (by omega)
 have f1:decide (q≤1)=false:=decide_eq_false (by omega)
 have f7:decide (q≤6)=false:=decide_eq_false (by omega)
 rw [lpNw,frz_loop]
 simp only [go_sem,hE,f0,f1,f7]
theorem hpNw_frz (w:Nw) (rf:Code × Code) (E:FEnv) (hE:E 4=.ref 0 1 0 0∧E 5=.ref 1 1 0 0∧E 7=.ref 6 1 0 0) (busy:Bool) (s:List Bx × Nat) (h:Heap) (q:Nat) (hq:9≤q):mapO (frzObj h (fromB q)) (hpNw w rf E busy s)=some (hpNw w rf E busy s):=by
 have f4:decide (q≤3)=false:=decide_eq_false (by omega)
 have f6:decide (q≤5)=false:=decide_eq_false (by omega)
 have a1:avoidAll (fromB q) [.agg (nwA 3 5 w)]=true:=by simp [nwA,avoidAll,avoid,fromB,f4,f6]
 have a4:∀ x:T,avoidAll (fromB q) [.t x]=true:=fun x=>by simp [avoidAll,avoid]
 simp only [hpNw,bsRow,dnRow,mapO,lpNw_frz rf E hE busy h q hq,frz_mapA,frz_rowA a1,frz_rowA (a4 _)]
theorem new_yield (rf:Code × Code) (hrf:rfOf Tryz.prog 8 0=rf) (w:Nw) (hok:okT w.t=true) (hr:rankL w.t w.prios=true) (hbl:(w.bs.length:Int)=w.t.nodes)
  (E:FEnv) (hE:E 4=.ref 0 1 0 0∧E 5=.ref 1 1 0 0∧E 7=.ref 6 1 0 0) (s:List Bx × Nat) (hsl:s.1.length=w.bs.length) (hmr:s.2≤w.bs.length) (n:Nat) (x:Bx) (hx:s.1[n]? = some x) (dd nn:Nat) (hn:200 < nn) (Q:AV→Heap→Prop)
  (hQ:∀ X',Q (.t (B true)) (hpNw w rf E false (nwN w s n)++[.row 5 [.t (.agg (bxC x))] 1]++X')) :
  oB (inl Tryz.prog pol (ans Tryz.prog pol) nn (dd+2) (.yl 8) [.t (I (n:Nat)),.t (.agg (bxC x))] (hpNw w rf E false s++[.row 5 [.t (.agg (bxC x))] 1])) Q:=by
 subst hrf
 have hnl:n < w.bs.length:=by rw [← hsl]; exact (List.getElem?_eq_some_iff.1 hx).1
 have hpl:=rankL_len hr
 have k1:=id_ans ⟨false,false,false,false,true⟩ ⟨w.t,w.prios,w.down,s.1⟩ n (show n < w.prios.length by omega)
 have hpa:prA ⟨w.t,w.prios,w.down,s.1⟩ n=prA w n:=rfl
 rw [hpa] at k1
 have hnv:=newN_ok hok hr (n:=n) (by omega)
 have k2:=New_ans false false (prA w n) (n:Nat) ((trunkL w.t n).map ofN) (costL w.t n) (by have:=trunk_24 hok (n:Nat); simp; omega)
 have hob:okB (newB (prA w n) (n:Nat) ((trunkL w.t n).map ofN) (costL w.t n))=true:=hnv.ok
 rw [if_pos hob] at k2
 have kt:=@trunks_fresh ⟨false,false,false,false,true⟩ ⟨w.t,w.prios,w.down,s.1⟩ n hok (show (n:Int) < w.t.nodes by omega) dd nn hn
 have hx5:∃ u1 u2 u3 u4 u5,bxC x=[u1,u2,u3,u4,u5]:=by
  unfold bxC
  split
  ·exact ⟨_,_,_,_,_,rfl⟩
  ·exact ⟨_,_,_,_,_,rfl⟩
 have gx:((s.1.map encX).map AV.t)[n]? = some (.t (.agg (bxC x))):=map_get (enc:=encX) hx
 have hslE:((s.1.map encX).map AV.t).length=w.bs.length:=by simp [hsl]
 have hset:=map_set (enc:=encX) (l:=s.1) (i:=n) (x:=newN w n)
 have hex:encX (newN w n)=brT true true true (newB (prA w n) (n:Nat) ((trunkL w.t n).map ofN) (costL w.t n)):=rfl
 rw [hex] at hset
 have hav:∀ (q:Nat→Bool) (y:T),avoidAll q (((s.1.map encX).map AV.t).set n (.t y))=true:=fun q y=>by rw [← List.map_set,av_map]
 have hq:=hQ
 have hr':nwN w s n=(s.1.set n (newN w n),w.bs.length):=rfl
 rw [hr'] at hq
 obtain ⟨u1,u2,u3,u4,u5,hu⟩:=hx5
 rw [hu] at hq gx ⊢
 have hdl2:((w.down.map B).map AV.t).length=w.down.length:=by simp
 simp only [hpNw,lpNw,List.cons_append,List.nil_append,nwA,bsRow,dnRow] at hq ⊢
 rw [← hset] at hq
 generalize newB (prA w n) (n:Nat) ((trunkL w.t n).map ofN) (costL w.t n)=B' at *
 with_reducible refine oB_yl (E:=tidyF (some [4,5,7]) E) rfl rfl rfl il8r0a_eq il8r0b_eq ?_
 (repeat' first|simp only [il8r0a,il8r0b,go_sem,hE,k1,k2,gx,hslE,hdl2,hnl,hmr,hav]|(with_reducible first|apply wD|apply wT|(apply wM; intro)|(apply wL; intro))|((with_reducible first|refine wA ?_ ?_|refine wE ?_); rfl))
 rw [call_freshS (ts:=[nwT ⟨false,false,false,false,true⟩ ⟨w.t,w.prios,w.down,s.1⟩,I (n:Nat)])]
 rotate_left
 ·rfl
 ·rfl
 ·simp only [go_sem]
 ·have sb:∀ (hx:Heap) (p:Nat→Bool) (d:Nat),p 5=true→hx[5]? = some (.row 5 ((s.1.map encX).map .t) s.2)→snap hx p (d+1) (.ms 5 w.bs.length 0 w.bs.length 5 true)=some (.sl true 5 (s.1.map encX)):=fun hx p d hp hr=>snp_msR hp hr hmr hsl.symm
  have sd:∀ (hx:Heap) (p:Nat→Bool) (d:Nat),p 3=true→hx[3]? = some (.row 1 ((w.down.map B).map .t) 0)→snap hx p (d+1) (.ms 3 w.down.length 0 w.down.length 1 false)=some (.sl false 1 (w.down.map B)):=fun hx p d hp hr=>snp_msR hp hr (Nat.zero_le _) rfl
  simp only [go_sem,hslE,hdl2,hmr,sb,sd]
 rw [freshST_some,oB_freshS]
 simp only [List.map_cons,List.map_nil,List.length_cons,List.length_nil,Nat.reduceAdd,Nat.zero_add]
 with_reducible refine @kt _ ?_
 have pl0:∀ (l:List Int),plainVs ((l.map I).map AV.t)=true:=fun l=>by
  induction l with
  | nil=>exact plVs_nil
  | cons a l ih=>rw [List.map_cons,List.map_cons,plVs_cons,ih,plV_t]; rfl
 have pl1:plainObjs [rowG 1 I ((trunkL w.t (n:Nat)).map ofN),rowG 1 I (costL w.t (n:Nat))]=true:=by simp only [rowG,plainObjs,pl0,Bool.and_self]
 have nm0:∀ (l:List Int),namesAll ((l.map I).map AV.t)=[]:=fun l=>by
  induction l with
  | nil=>rfl
  | cons a l ih=>simp only [List.map_cons,namesAll,names,ih,List.append_nil]
 have nm1:∀ (l:List Int),namesObj (some (rowG 1 I l))=[]:=fun l=>nm0 l
 have fg1:∀ (l:List Int) (hx:Heap) (p:Nat→Bool),frzObj hx p (rowG 1 I l)=some (rowG 1 I l):=fun l hx p=>frz_rowG
 have pa:∀ k,avoid (belowB 10) (.tup [.ms 10 k 0 k 1 false,.ms 11 k 0 k 1 false])=true:=fun k=>by simp [avoid,avoidAll,belowB]
 have pb:∀ (l:List Int),avoidObj (belowB 10) (rowG 1 I l)=true:=fun l=>by simp only [rowG,avoidObj,av_map]
 have htl:(trunkL w.t (n:Nat)).length=(((trunkL w.t (n:Nat)).map ofN).map I).length:=by simp
 have fz1:∀ (hx:Heap) (p:Nat→Bool),p 10=true→hx[10]? = some (rowG 1 I ((trunkL w.t (n:Nat)).map ofN))→frz hx p (.ms 10 (trunkL w.t (n:Nat)).length 0 (trunkL w.t (n:Nat)).length 1 false)=some (.t (.sl false 1 (((trunkL w.t (n:Nat)).map ofN).map I))):=fun hx p hp hg=>frz_msr (l:=(trunkL w.t (n:Nat)).map ofN) hp hg (Nat.zero_le _) (by simp)
 have fz2:∀ (hx:Heap) (p:Nat→Bool),p 11=true→hx[11]? = some (rowG 1 I (costL w.t (n:Nat)))→frz hx p (.ms 11 (trunkL w.t (n:Nat)).length 0 (trunkL w.t (n:Nat)).length 1 false)=some (.t (.sl false 1 ((costL w.t (n:Nat)).map I))):=fun hx p hp hg=>frz_msr (l:=costL w.t (n:Nat)) hp hg (Nat.zero_le _) (by simp [costL])
 (repeat' first|simp only [freshKS_app,freshK_app,List.replicate_succ,List.replicate_zero,List.drop_succ_cons,List.drop_zero,List.cons_append,List.nil_append,go_sem,hE,k1,k2,gx,hslE,hdl2,hnl,hmr,hav,fz1,fz2,fg1,nm1,pl1,pa,pb,List.drop_succ_cons,List.drop_zero]|(with_reducible first|apply wD|apply wT|(apply wM; intro)|(apply wL; intro))|((with_reducible first|refine wA ?_ ?_|refine wE ?_); rfl)|((with_reducible refine oB_inl il34_eq ?_ ?_); exact Nat.le_of_ble_eq_true rfl; simp only [il34c]))
 all_goals exact hq _
def newW (t:Tpo) (prios:List Int):Nw:=⟨t,prios,List.replicate t.links.length false,List.replicate t.nodes.toNat zBx⟩
def newL (w:Nw):List Bx:=(List.range w.bs.length).foldl (stS w.t (fun s n=>s.set n (newN w n))) w.bs
section
variable (c1 c2 c:Bool) (t:Tpo) (prios:List Int)
theorem New_bad (h:okT t=false):ans Tryz.prog pol 8 [tpT c1 c2 t,.sl c 1 (prios.map I)]=some (.tup [zN6,I 260]):=by
 have k1:=Check_ans c1 c2 t
 rw [if_neg (by rw [h]; simp)] at k1
 refine ans_go 2000 5 il8_eq (Nat.le_of_ble_eq_true rfl) ?_
 simp only [il8c]
 (repeat' first|simp only [List.cons_append,List.nil_append,go_sem,k1]|(with_reducible first|apply wD|apply wT|(apply wM; intro)|(apply wL; intro))|((with_reducible first|refine wA ?_ ?_|refine wE ?_); rfl))
theorem New_arg (h:okT t=true) (hl:prios.length≤900) (h2:rankL t prios=false):ans Tryz.prog pol 8 [tpT c1 c2 t,.sl c 1 (prios.map I)]=some (.tup [zN6,I 2]):=by
 have k1:=Check_ans c1 c2 t
 rw [if_pos h] at k1
 have k2:=ranked_ans c c1 c2 t prios hl
 rw [h2] at k2
 refine ans_go 2000 5 il8_eq (Nat.le_of_ble_eq_true rfl) ?_
 simp only [il8c]
 (repeat' first|simp only [List.cons_append,List.nil_append,go_sem,k1,k2]|(with_reducible first|apply wD|apply wT|(apply wM; intro)|(apply wL; intro))|((with_reducible first|refine wA ?_ ?_|refine wE ?_); rfl))
theorem New_ok (h:okT t=true) (h2:rankL t prios=true):ans Tryz.prog pol 8 [tpT c1 c2 t,.sl c 1 (prios.map I)]=some (.tup [nwT ⟨false,false,false,false,true⟩ ⟨t,prios,List.replicate t.links.length false,newL (newW t prios)⟩,I 0]):=by
 obtain ⟨z1,z2,z3⟩:=okT_size h
 obtain ⟨N,hN⟩:∃ N:Nat,t.nodes=(N:Nat):=⟨t.nodes.toNat,by omega⟩
 obtain ⟨nodes,st,lks⟩:=t
 dsimp only at hN z1 z2 z3
 subst hN
 have hpl:=rankL_len h2
 dsimp only at hpl
 have k1:=Check_ans c1 c2 ⟨(N:Nat),st,lks⟩
 rw [if_pos h] at k1
 have k2:=ranked_ans c c1 c2 ⟨(N:Nat),st,lks⟩ prios (by omega)
 rw [h2] at k2
 have hroom1:1*lks.length≤roomB:=by rw [Nat.mul_comm]; exact ap_room (by omega) (by omega)
 have hroom2:88*N≤roomB:=by rw [Nat.mul_comm]; exact ap_room (by omega) (by omega)
 have hbig1:lks.length≤9223372036854775807:=by omega
 have hbig2:N≤9223372036854775807:=by omega
 obtain ⟨nn,h2000⟩:∃ nn,2000 < nn:=⟨2001,by omega⟩
 have hn1:1000 < nn:=by omega
 have hn2:200 < nn:=by omega
 refine ans_go nn 5 il8_eq (Nat.le_of_ble_eq_true rfl) ?_
 simp only [il8c]
 generalize hrf:rfOf Tryz.prog 8 0=rf
 (repeat' first|simp only [List.cons_append,List.nil_append,go_sem,k1,k2,hroom1,hroom2,hbig1,hbig2]|(with_reducible first|apply wD|apply wT|(apply wM; intro)|(apply wL; intro))|((with_reducible first|refine wA ?_ ?_|refine wE ?_); rfl))
 have e1:List.replicate lks.length (T.sc (Value.bool false))=(List.replicate lks.length false).map B:=by simp
 have e2:List.replicate N (T.agg [T.sc (Value.int IntKind.i64 0),T.sc (Value.int IntKind.i64 0),T.sc (Value.slice none 0 0),T.sc (Value.slice none 0 0),T.sc (Value.slice none 0 0)])=(List.replicate N zBx).map encX:=by simp [encX,bxC,zBx]
 rw [e1,e2]
 obtain ⟨w,hw⟩:∃ w:Nw,w=⟨⟨(N:Nat),st,lks⟩,prios,List.replicate lks.length false,List.replicate N zBx⟩:=⟨_,rfl⟩
 have hwt:w.t=⟨(N:Nat),st,lks⟩:=by rw [hw]
 have hwp:w.prios=prios:=by rw [hw]
 have hwd:w.down=List.replicate lks.length false:=by rw [hw]
 have hwb:w.bs=List.replicate N zBx:=by rw [hw]
 have hne:w.down≠[]:=by
  have hl:=links_ne h
  rw [hwd]
  intro h0
  have:lks.length=0:=by simpa using congrArg List.length h0
  exact hl (List.eq_nil_of_length_eq_zero this)
 have hargs:AV.t (T.agg [I (N:Nat),T.sl c1 1 (List.map B st),T.sl c2 4 (List.map encK lks),T.sl c 1 (List.map I prios),T.sl true 1 (List.map B (List.replicate lks.length false)),T.sl true 5 (List.map encX (List.replicate N zBx))])=.t (nwT ⟨c1,c2,c,true,true⟩ w):=by rw [hw]
 rw [hargs]
 have hcp:w.bs.map cpX=w.bs:=by rw [hwb,List.map_replicate]; rfl
 have hres:newL (newW ⟨(N:Nat),st,lks⟩ prios)=newL w:=by rw [hw,newW]; rfl
 rw [hres,← hwd]
 have hwN:w.bs.length=N:=by rw [hwb]; simp
 have hwD:w.down.length=lks.length:=by rw [hwd]; simp
 have b1:w.prios.length≤900:=by rw [hwp]; omega
 have b2:w.down.length≤900:=by omega
 have b3:w.bs.length≤900:=by omega
 have b4:w.t.station.length≤900:=by rw [hwt]; show st.length≤900; omega
 have b5:w.t.links.length≤900:=by rw [hwt]; show lks.length≤900; omega
 have b6:∀ x∈w.bs,x.b.ports.length≤900∧x.b.costs.length≤900∧x.b.heard.length≤900:=by
  rw [hwb]; intro x hx; rw [List.eq_of_mem_replicate hx]; simp [zBx,zBr]
 have hgoal:(⟨⟨(N:Nat),st,lks⟩,prios,w.down,newL w⟩:Nw)=⟨w.t,w.prios,w.down,newL w⟩:=by rw [hwt,hwp]
 rw [hgoal]
 rw [← hwt] at h h2
 rw [← hwp] at h2
 have hbl:(w.bs.length:Int)=w.t.nodes:=by rw [hwt,hwN]
 have hst:(w.t.station.length:Int)=w.t.nodes:=by rw [hwt]; exact z2
 have hb100:w.bs.length≤100:=by omega
 clear hargs hres hgoal hwt hwp hwb e1 e2 k1 k2 hw hwd
 with_reducible refine copied_fresh ⟨c1,c2,c,true,true⟩ w hne b1 b2 b3 b4 b5 b6 2 3 nn hn1 _ ?_
 intro mr hmr
 rw [hcp]
 have a1:avoidAll (belowB 2) [.agg (nwA 3 5 w)]=true:=by simp [nwA,avoidAll,avoid,belowB]
 simp only [nwA,dnRow,bsRow,Nat.reduceAdd] at a1 ⊢
 (repeat' first|simp only [freshK_app,List.replicate_succ,List.replicate_zero,List.drop_succ_cons,List.drop_zero,List.cons_append,List.nil_append,go_sem,av_map,a1,List.drop_succ_cons,List.drop_zero,hmr]|(with_reducible first|apply wD|apply wT|(apply wM; intro)|(apply wL; intro))|((with_reducible first|refine wA ?_ ?_|refine wE ?_); rfl)|((with_reducible refine oB_inl il31_eq ?_ ?_); exact Nat.le_of_ble_eq_true rfl; simp only [il31c]))
 have key:∀ E:FEnv,([.row 6 [.t zN6] 0,.row 1 [.t (I 0)] 0,.row 6 [.agg (nwA 3 5 w)] 1,dnRow w,.row 6 [.agg (nwA 3 5 w)] 1,bsRow w.bs mr,.row 6 [.agg (nwA 3 5 w)] 1,.row 6 [.agg (nwA 3 5 w)] 0,.loop 8 (lpEnv 66 (tidyF (some [4,5,7]) E)) [37,38] rf.1 rf.2 false none]:Heap)=hpNw w rf E false (w.bs,mr):=fun E=>rfl
 simp only [nwA,bsRow,dnRow] at key
 rw [key]
 have h89:8 < 9:=by omega
 have h79:7 < 9:=by omega
 have h59:5 < 9:=by omega
 have h01:0≤1:=by omega
 have hI0:(w.bs,mr).1.length=w.bs.length∧(w.bs,mr).2≤w.bs.length:=⟨rfl,hmr⟩
 have hnx:∀ (s:List Bx × Nat) n,s.1.length=w.bs.length∧s.2≤w.bs.length→(nwN w s n).1.length=w.bs.length∧(nwN w s n).2≤w.bs.length:=fun s n h=>⟨by simp [nwN,h.1],Nat.le_refl _⟩
 let σ:={ s:List Bx × Nat // s.1.length=w.bs.length∧s.2≤w.bs.length }
 let nx:σ→Nat→σ:=fun s n=>⟨nwN w s.1 n,hnx s.1 n s.2⟩
 have hstv:∀ (s:σ) n,(stS w.t nx s n).1=stS w.t (nwN w) s.1 n:=fun s n=>by
  unfold stS
  by_cases q:stA w.t n=true
  ·rw [if_pos q,if_pos q]
  ·rw [if_neg q,if_neg q]
 have hfv:∀ (s:σ) k,((List.range k).foldl (stS w.t nx) s).1=(List.range k).foldl (stS w.t (nwN w)) s.1:=by
  intro s k
  induction k with
  | zero=>rfl
  | succ k ih =>
   rw [List.range_succ,List.foldl_append,List.foldl_append,List.foldl_cons,List.foldl_cons,List.foldl_nil,List.foldl_nil,hstv,ih]
 have hLs:∀ s:σ,s.1.1.length=w.bs.length:=fun s=>s.2.1
 have hs0:∀ E:FEnv,hpNw w rf E false (w.bs,mr)=(fun s:σ=>hpNw w rf E false s.1) ⟨(w.bs,mr),hI0⟩:=fun E=>rfl
 rw [hs0]
 have hcl:newL w=((List.range w.bs.length).foldl (stS w.t (nwN w)) (w.bs,mr)).1:=by
  rw [fold_fst _ _ (stS_fst w.t (nwN w) (fun s n=>s.set n (newN w n)) (fun _ _=>rfl))]; rfl
 have hdl2:((w.down.map B).map AV.t).length=w.down.length:=by simp
 with_reducible refine @all_iterR σ (fun s:σ=>hpNw w rf _ false s.1) 9 (fun s=>rfl) nx 4 nn 8 (fun n s=>True) w (fun _ _ _ _=>trivial) ?_ h89 7 3 5 0 h79 h01 h59 (fun s=>s.1.1) (fun s=>s.1.2) hLs (fun s=>s.2.2) (fun _ _=>rfl) (fun _ _=>rfl) hst hbl hb100 ?_ ⟨(w.bs,mr),hI0⟩ trivial _ hn2 ?_
 ·intro s h q hq
  exact hpNw_frz w rf _ (by simp only [go_sem]) false s.1 h q hq
 ·intro s n x Q hx hs _ hQ
  have hQ':∀ X',Q (.t (B true)) (hpNw w rf _ false (nwN w s.1 n)++[.row 5 [.t (.agg (bxC x))] 1]++X'):=hQ
  with_reducible exact @new_yield rf hrf w h h2 hbl _ (by simp only [go_sem]) s.1 s.2.1 s.2.2 n x hx 2 nn hn2 Q hQ'
 ·intro v
  have hfin:=((List.range w.bs.length).foldl (stS w.t nx) ⟨(w.bs,mr),hI0⟩).2
  change rfEnd _ _ _ v (hpNw w rf _ false ((List.range w.bs.length).foldl (stS w.t nx) ⟨(w.bs,mr),hI0⟩).1)
  rw [hfv] at hfin ⊢
  rw [hcl]
  generalize (List.range w.bs.length).foldl (stS w.t (nwN w)) (w.bs,mr)=s at *
  obtain ⟨hf1,hf2⟩:=hfin
  have hl4:((s.1.map encX).map AV.t).length=w.bs.length:=by simp [hf1]
  simp only [hpNw,lpNw,List.cons_append,List.nil_append,nwA,bsRow,dnRow]
  (repeat' first|simp only [il8c,go_sem,frz_mapA,hdl2,hl4,hf2]|(with_reducible first|apply wD|apply wT|(apply wM; intro)|(apply wL; intro))|((with_reducible first|refine wA ?_ ?_|refine wE ?_); rfl))
end
end Go.Proofs.YtbibdnlbpjnieaaGreat
namespace Go.Proofs.YtbibdnlbpjnieaaGreat
open Go Go.Abs
theorem foldC_ls3 {σ α:Type} {f:σ→α→σ}:∀ (l:List α) (i:Nat) (s:σ),foldC (ρ:=σ) (fun _ x s=>Ctl.go (f s x)) id i l s=l.foldl f s:=by
 intro l
 induction l with
 | nil=>intro i s; rfl
 | cons x l ih=>intro i s; rw [foldC_go (s':=f s x) rfl,ih,List.foldl_cons]
theorem rPortsB_f7 (c1 c2:Bool) (t:Tpo) (n:Nat) (h:okT t=true) (hn:stA t n=false) (dd nn:Nat) (hnn:200 < nn) (Q:AV→Heap→Prop)
  (hQ:Q (.ms 7 (trunkL t n).length 0 (trunkL t n).length 1 false) [.gone,.gone,.gone,.gone,.gone,.gone,.gone,rowG 1 I ((trunkL t n).map ofN)]) :
  oB (inl Tryz.prog pol (ans Tryz.prog pol) nn (dd+1) (.fn 83) [.t (tpT c1 c2 t),.t (I (n:Nat))] (List.replicate 7 .gone)) Q:=by
 obtain ⟨z1,z2,z3⟩:=okT_size h
 have k1:=rPorts_ans c1 c2 t n (by omega)
 have hplt:=fun p=>@ports_lt t (n:Nat) p
 have hfr:∀ p∈portsL t (n:Nat),frP t p=(n:Nat):=fun p hp=>by simp only [portsL,List.mem_filter,decide_eq_true_eq] at hp; exact hp.2
 have hpl:=ports_len t (n:Nat)
 have htr:trunkL t (n:Nat)=(portsL t (n:Nat)).filter (innP t):=rfl
 generalize portsL t (n:Nat)=L at *
 have hLl:(L.map ofN).length=L.length:=by simp
 with_reducible refine oB_inl il83_eq ?_ ?_
 ·exact Nat.le_of_ble_eq_true rfl
 simp only [List.replicate_succ,List.replicate_zero]
 (repeat' first|simp only [il83c,go_sem,k1]|(with_reducible first|apply wD|apply wT|(apply wM; intro)|(apply wL; intro))|((with_reducible first|refine wA ?_ ?_|refine wE ?_); rfl))
 refine loop_range L (fun p=>I (ofN p)) (step:=fun _ p (o:List Nat)=>.go (keepS (innP t) o p)) (fin:=id)
  (St:=fun i o e h=>(e 2=.t (.ip (tpC c1 c2 t))∧e 5=.ms 7 o.length 0 o.length 1 false∧e 6=.t (.sl false 1 ((L.map ofN).map I))∧e 7=.t (I (i:Nat)))∧o.length≤i∧h=[.gone,.gone,.gone,.gone,.gone,.gone,.gone,rowG 1 I (o.map ofN)])
  (Ex:=fun o x e h=>e 5=.ms 7 o.length 0 o.length 1 false∧x=.exit 0∧h=[.gone,.gone,.gone,.gone,.gone,.gone,.gone,rowG 1 I (o.map ofN)]) (s:=[]) (by omega) ?_ ?_ (by omega) ?_ ?_
 ·intro i p o e h' Y R hm hi hx hget hlt hw ⟨hs,ho,hh⟩ hk
  subst hh
  simp only [ctlK_go] at hk
  have hp:=hplt p hm
  have hget':((L.map ofN).map I)[i]? = some (I (ofN p)):=by simp [hx]
  have k2:=rInner_ans c1 c2 t p h hp
  rw [hfr p hm,Int.toNat_natCast,hn,Bool.not_false,Bool.true_and] at k2
  have hroom:(o.length+1)*8≤roomB:=ap_room (by omega) (by omega)
  have hl1:(o.map ofN).length=o.length:=by simp
  have is1:rowIs 1 o.length (some (rowG 1 I (o.map ofN))):=by have:=rowG_is (k:=1) (enc:=I) (l:=o.map ofN); rwa [hl1] at this
  have pu1:AObj.row 1 (((o.map ofN).map I).map .t++[.t (I (p:Nat))]) 0=rowG 1 I ((o++[p]).map ofN):=by simp [rowG]
  unfold keepS innP at hk
  cases hst:stA t (toP t p).toNat with
  | true =>
   rw [hst] at k2 hk
   simp only [Bool.not_true,Bool.false_eq_true,if_false] at hk k2
   (repeat' first|simp only [il83l0_go,il83l0b,go_sem,hs,hget',hlt,hLl,hw,ofN,k2,frz_rowG]|(with_reducible first|apply wD|apply wT|(apply wM; intro)|(apply wL; intro))|((with_reducible first|refine wA ?_ ?_|refine wE ?_); rfl))
   all_goals (refine hk _ _ ⟨?_,by omega,rfl⟩; simp only [go_sem,hs,hw,ofN])
  | false =>
   rw [hst] at k2 hk
   simp only [Bool.not_false,if_true] at hk k2
   (repeat' first|simp only [il83l0_go,il83l0b,go_sem,hs,hget',hlt,hLl,hw,ofN,k2,hroom,is1,rowG_es,rowG_mr,pu1,frz_rowG]|(with_reducible first|apply wD|apply wT|(apply wM; intro)|(apply wL; intro))|((with_reducible first|refine wA ?_ ?_|refine wE ?_); rfl))
   all_goals (refine hk _ _ ⟨?_,by simp; omega,?_⟩ <;> simp only [go_sem,hs,hw,ofN,List.length_append])
 ·intro o e h' Y R hlt ⟨hs,ho,hh⟩ hk
  subst hh
  (repeat' first|simp only [il83l0_go,il83l0b,go_sem,hs,hLl,hlt]|(with_reducible first|apply wD|apply wT|(apply wM; intro)|(apply wL; intro))|((with_reducible first|refine wA ?_ ?_|refine wE ?_); rfl))
  all_goals (refine hk _ _ _ ⟨?_,rfl,rfl⟩; simp only [go_sem,hs,id])
 ·refine ⟨?_,by simp,rfl⟩
  simp only [go_sem,List.map_map]
 ·intro x e h' ⟨h1,h2,h3⟩
  rw [foldC_ls3,keep_fold,List.nil_append,← htr] at h1 h3
  generalize trunkL t (n:Nat)=o at *
  subst h2 h3
  have hl1:(o.map ofN).length=o.length:=by simp
  have is1:rowIs 1 o.length (some (rowG 1 I (o.map ofN))):=by have:=rowG_is (k:=1) (enc:=I) (l:=o.map ofN); rwa [hl1] at this
  (repeat' first|simp only [il83c,go_sem,h1,is1,rowG_es,rowG_mr]|(with_reducible first|apply wD|apply wT|(apply wM; intro)|(apply wL; intro))|((with_reducible first|refine wA ?_ ?_|refine wE ?_); rfl))
  all_goals exact hQ
end Go.Proofs.YtbibdnlbpjnieaaGreat
