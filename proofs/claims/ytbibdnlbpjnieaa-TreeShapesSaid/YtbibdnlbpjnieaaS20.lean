/- Part 20 of the proof of TreeShapes. -/
import Derived.Test.YtbibdnlbpjnieaaS19
set_option linter.all false
set_option maxRecDepth 100000
set_option maxHeartbeats 4000000
namespace Go.Proofs.Ytbibdnlbpjnieaa
open Go Go.Abs
def tkB (b:Br):Bx:=⟨false,true,true,true,putB b (b.heard.map tickH)⟩
def tkN (w:Nw) (s:List Bx × Nat) (n:Nat):List Bx × Nat:=(s.1.set n (tkB (s.1[n]?.getD zBx).b),w.bs.length)
theorem VB.tick {w:Nw} {n:Nat} {b:Br} (h:VB w n b):VB w n (putB b (b.heard.map tickH)):=by
 refine h.put (by simp) fun x hx=>?_
 obtain ⟨y,hy,rfl⟩:=List.mem_map.1 hx
 exact okH_tick (okB_all h.ok y hy)
theorem tkN_ok {w:Nw} {s:List Bx × Nat} (h:vBs w s.1) (h2:s.2≤w.bs.length) {n:Nat} (hn:n < w.bs.length) (hst:stA w.t n=false):vBs w (tkN w s n).1∧(tkN w s n).2≤w.bs.length:=by
 refine ⟨⟨by simp [tkN,h.1],fun m x hx hs=>?_⟩,Nat.le_refl _⟩
 simp only [tkN,List.getElem?_set] at hx
 split at hx
 ·rename_i hm
  split at hx
  ·rename_i hlt
   obtain rfl:=Option.some.inj hx
   subst hm
   obtain ⟨y,hy⟩:∃ y,s.1[n]? = some y:=⟨s.1[n]'hlt,by simp [hlt]⟩
   obtain ⟨_,hv⟩:=h.2 n y hy hst
   rw [hy]
   exact ⟨rfl,hv.tick⟩
  ·cases hx
 ·exact h.2 m x hx hs
noncomputable def lpTk (rf:Code × Code) (E:FEnv) (busy:Bool):AObj:=.loop 41 (lpEnv 31 (tidyF (some [1,2]) E)) [12,13] rf.1 rf.2 busy none
noncomputable def hpTk (w:Nw) (sent:T) (rf:Code × Code) (E:FEnv) (s:List Bx × Nat):Heap :=
 rdH w s.1 s.2 (.t sent) 41++[.row 1 [.ref 6 1 0 0] 0,.row 1 [.t (I 0)] 0,.row 6 [.agg (nwA 3 5 w)] 0,lpTk rf E false]
theorem hpTk_frz (w:Nw) (sent:T) (rf:Code × Code) (E:FEnv) (hE:E 1=.ref 8 1 0 0∧E 2=.ref 9 1 0 0) (s:List Bx × Nat) (h:Heap) (q:Nat) (hq:12≤q):mapO (frzObj h (fromB q)) (hpTk w sent rf E s)=some (hpTk w sent rf E s):=by
 have f8:decide (q≤8)=false:=decide_eq_false (by omega)
 have f9:decide (q≤9)=false:=decide_eq_false (by omega)
 have f3:decide (q≤3)=false:=decide_eq_false (by omega)
 have f5:decide (q≤5)=false:=decide_eq_false (by omega)
 have f6:decide (q≤6)=false:=decide_eq_false (by omega)
 have h1:frzObj h (fromB q) (lpTk rf E false)=some (lpTk rf E false):=by
  rw [lpTk,frz_loop]
  simp only [go_sem,hE,f8,f9]
 have a1:avoidAll (fromB q) [.agg (nwA 3 5 w)]=true:=by simp [nwA,avoidAll,avoid,fromB,f3,f5]
 have a2:avoidAll (fromB q) [.agg (nwA 3 5 w++[.t sent])]=true:=by simp [nwA,avoidAll,avoid,fromB,f3,f5]
 have a3:avoidAll (fromB q) [.ref 6 1 0 0]=true:=by simp [avoidAll,avoid,fromB,f6]
 have a4:∀ x:T,avoidAll (fromB q) [.t x]=true:=fun x=>by simp [avoidAll,avoid]
 simp only [hpTk,rdH,List.cons_append,List.nil_append,dnRow,bsRow,mapO,h1,frz_mapA,frz_rowA a1,frz_rowA a2,frz_rowA a3,frz_rowA (a4 _)]
theorem tick_yield (rf:Code × Code) (hrf:rfOf Try.prog 41 0=rf) (w:Nw) (hb100:w.bs.length≤100) (sent:T)
  (E:FEnv) (hE:E 1=.ref 8 1 0 0∧E 2=.ref 9 1 0 0) (s:List Bx × Nat) (hv:vBs w s.1) (hmr:s.2≤w.bs.length) (n:Nat) (x:Bx) (hx:s.1[n]? = some x) (hst:stA w.t n=false) (dd nn:Nat) (hn:200 < nn) (Q:AV→Heap→Prop)
  (hQ:∀ X',Q (.t (B true)) (hpTk w sent rf E (tkN w s n)++[.row 5 [.t (.agg (bxC x))] 1]++X')) :
  oB (inl Try.prog pol (ans Try.prog pol) nn (dd+1) (.yl 11) [.t (I (n:Nat)),.t (.agg (bxC x))] (hpTk w sent rf E s++[.row 5 [.t (.agg (bxC x))] 1])) Q:=by
 subst hrf
 obtain ⟨xz,xv⟩:=hv.2 n x hx hst
 have hnl:n < w.bs.length:=by rw [← hv.1]; exact (List.getElem?_eq_some_iff.1 hx).1
 obtain ⟨z,c1,c2,c3,b⟩:=x
 dsimp only at xz xv hQ
 subst xz
 have hbc:bxC ⟨false,c1,c2,c3,b⟩=brC c1 c2 c3 b:=rfl
 rw [hbc] at hQ ⊢
 have k1:=Tick_ok (c1:=c1) (c2:=c2) (c3:=c3) (b:=b) xv.ok
 have hb5:(T.agg (brC c1 c2 c3 b)).cells=brC c1 c2 c3 b:=rfl
 have hset:=map_set (enc:=encX) (l:=s.1) (i:=n) (x:=tkB b)
 have hex:encX (tkB b)=brT true true true (putB b (b.heard.map tickH)):=rfl
 rw [hex] at hset
 have hsl:((s.1.map encX).map AV.t).length=w.bs.length:=by simp [hv.1]
 have gx:((s.1.map encX).map AV.t)[n]? = some (.t (.agg (brC c1 c2 c3 b))):=map_get (enc:=encX) hx
 have hr:tkN w s n=(s.1.set n (tkB b),w.bs.length):=by rw [tkN,hx]; rfl
 have hav:∀ (q:Nat→Bool) (y:T),avoidAll q (((s.1.map encX).map AV.t).set n (.t y))=true:=fun q y=>by rw [← List.map_set,av_map]
 have hq:=hQ
 rw [hr] at hq
 simp only [hpTk,rdH,lpTk,List.cons_append,List.nil_append,nwA,bsRow,dnRow] at hq ⊢
 rw [← hset] at hq
 generalize putB b (b.heard.map tickH)=B' at *
 refine oB_yl (E:=tidyF (some [1,2]) E) rfl rfl rfl il41r0a_eq il41r0b_eq ?_
 (repeat' first|simp only [il41r0a,il41r0b,go_sem,hE,k1,hb5,gx,hsl,hnl,hmr,hav]|(with_reducible first|apply wD|apply wT|(apply wM; intro)|(apply wL; intro))|((with_reducible first|refine wA ?_ ?_|refine wE ?_); rfl))
 all_goals exact hq _
theorem tick_ok (w:Nw) (hok:okT w.t=true) (hbl:(w.bs.length:Int)=w.t.nodes) (sent:T) (bs:List Bx) (mr:Nat) (hmr:mr≤w.bs.length) (hv:vBs w bs) (dd nn:Nat) (hn:200 < nn) (Q:AV→Heap→Prop)
  (hQ:Q (.t (I 0)) (rdH w ((List.range w.bs.length).foldl (stS w.t (tkN w)) (bs,mr)).1 ((List.range w.bs.length).foldl (stS w.t (tkN w)) (bs,mr)).2 (.t sent) 41++[.row 1 [.ref 6 1 0 0] 0,.row 1 [.t (I 0)] 1,.row 6 [.agg (nwA 3 5 w)] 0])) :
  oB (inl Try.prog pol (ans Try.prog pol) nn (dd+3) (.fn 41) [.ref 6 1 0 0] (rdH w bs mr (.t sent) 41)) Q:=by
 obtain ⟨z1,z2,z3⟩:=okT_size hok
 refine oB_inl il41_eq (Nat.le_of_ble_eq_true rfl) ?_
 simp only [il41c]
 generalize hrf:rfOf Try.prog 41 0=rf
 simp only [rdH,nwA]
 (repeat' first|simp only [List.cons_append,List.nil_append,go_sem]|(with_reducible first|apply wD|apply wT|(apply wM; intro)|(apply wL; intro))|((with_reducible first|refine wA ?_ ?_|refine wE ?_); rfl)|((with_reducible refine oB_inl il26_eq ?_ ?_); exact Nat.le_of_ble_eq_true rfl; simp only [il26c]))
 have key:∀ E:FEnv,([.row 6 [.t zN6] 0,.row 3 [.t stepsT] 1,.row 6 [.agg (nwA 3 5 w)] 1,dnRow w,.row 6 [.agg (nwA 3 5 w)] 1,bsRow bs mr,.row 7 [.agg (nwA 3 5 w++[.t sent])] 1,.row 1 [.t (.agg [.fn (.func 41) [] []])] 1,
  .row 1 [.ref 6 1 0 0] 0,.row 1 [.t (I 0)] 0,.row 6 [.agg (nwA 3 5 w)] 0,.loop 41 (lpEnv 31 (tidyF (some [1,2]) E)) [12,13] rf.1 rf.2 false none]:Heap)=hpTk w sent rf E (bs,mr):=fun E=>rfl
 simp only [nwA,List.cons_append,List.nil_append] at key
 rw [key]
 have h1112:11 < 12:=by omega
 have h1012:10 < 12:=by omega
 have h512:5 < 12:=by omega
 have h01:0≤1:=by omega
 have hI0:vBs w (bs,mr).1∧(bs,mr).2≤w.bs.length:=⟨hv,hmr⟩
 have hb100:w.bs.length≤100:=by omega
 have hnx:∀ (s:List Bx × Nat) n,n < w.bs.length→stA w.t n=false→vBs w s.1∧s.2≤w.bs.length→vBs w (tkN w s n).1∧(tkN w s n).2≤w.bs.length:=fun s n hn hs h=>tkN_ok h.1 h.2 hn hs
 let σ:={ s:List Bx × Nat // vBs w s.1∧s.2≤w.bs.length }
 let nx:σ→Nat→σ:=fun s n=>if h:n < w.bs.length∧stA w.t n=false then ⟨tkN w s.1 n,hnx s.1 n h.1 h.2 s.2⟩ else s
 have hnxv:∀ (s:σ) n,n < w.bs.length→stA w.t n=false→(nx s n).1=tkN w s.1 n:=fun s n h1 h2=>by simp only [nx]; rw [dif_pos ⟨h1,h2⟩]
 have hstv:∀ (s:σ) n,n < w.bs.length→(stS w.t nx s n).1=stS w.t (tkN w) s.1 n:=fun s n h1=>by
  unfold stS
  by_cases q:stA w.t n=true
  ·rw [if_pos q,if_pos q]
  ·rw [if_neg q,if_neg q]; exact hnxv s n h1 (by simpa using q)
 have hfv:∀ (s:σ) k,k≤w.bs.length→((List.range k).foldl (stS w.t nx) s).1=(List.range k).foldl (stS w.t (tkN w)) s.1:=by
  intro s k
  induction k with
  | zero=>intro _; rfl
  | succ k ih =>
   intro hk
   rw [List.range_succ,List.foldl_append,List.foldl_append,List.foldl_cons,List.foldl_cons,List.foldl_nil,List.foldl_nil,hstv _ _ (by omega),ih (by omega)]
 have hLs:∀ s:σ,s.1.1.length=w.bs.length:=fun s=>by have h:=s.2.1; unfold vBs at h; exact h.1
 have hs0:∀ E:FEnv,hpTk w sent rf E (bs,mr)=(fun s:σ=>hpTk w sent rf E s.1) ⟨(bs,mr),hI0⟩:=fun E=>rfl
 rw [hs0]
 with_reducible refine all_iterR (fun s:σ=>hpTk w sent rf _ s.1) 12 (fun s=>rfl) nx (dd+1) nn 11 (fun n s=>True) w (fun _ _ _ _=>trivial) ?_ h1112 10 3 5 0 h1012 h01 h512 (fun s=>s.1.1) (fun s=>s.1.2) hLs (fun s=>s.2.2) (fun _ _=>rfl) (fun _ _=>rfl) z2 hbl hb100 ?_ ⟨(bs,mr),hI0⟩ trivial _ hn ?_
 ·intro s h q hq
  exact hpTk_frz w sent rf _ (by simp only [go_sem]) s.1 h q hq
 ·intro s n x Q hx hs _ hQ
  have hnl:n < w.bs.length:=by rw [← hLs s]; exact (List.getElem?_eq_some_iff.1 hx).1
  have hQ':∀ X',Q (.t (B true)) (hpTk w sent rf _ (nx s n).1++[.row 5 [.t (.agg (bxC x))] 1]++X'):=hQ
  rw [hnxv s n hnl hs] at hQ'
  exact tick_yield rf hrf w hb100 sent _ (by simp only [go_sem]) s.1 s.2.1 s.2.2 n x hx hs dd nn hn Q hQ'
 ·intro v
  change rfEnd _ _ _ v (hpTk w sent rf _ ((List.range w.bs.length).foldl (stS w.t nx) ⟨(bs,mr),hI0⟩).1)
  rw [hfv _ _ (Nat.le_refl _)]
  generalize (List.range w.bs.length).foldl (stS w.t (tkN w)) (bs,mr)=s at *
  simp only [hpTk,rdH,lpTk,List.cons_append,List.nil_append,nwA,bsRow,dnRow] at hQ ⊢
  (repeat' first|simp only [il41c,go_sem,frz_mapA]|(with_reducible first|apply wD|apply wT|(apply wM; intro)|(apply wL; intro))|((with_reducible first|refine wA ?_ ?_|refine wE ?_); rfl))
  all_goals exact hQ
end Go.Proofs.Ytbibdnlbpjnieaa
namespace Go.Proofs.Ytbibdnlbpjnieaa
open Go Go.Abs
def OpI (b:Br) (s:Os'):Prop:=s.t=tp0 b∨∃ i,i < b.heard.length∧leads b i=true∧s.t=⟨(ofr b i).a,(ofr b i).b,(ofr b i).c,i,(ofr b i).g⟩
theorem opF_inv (b:Br):OpI b (opF b):=by
 have key:∀ (l:List Nat) (s:Os'),(∀ i∈l,i < b.heard.length)→OpI b s→OpI b (l.foldl (ldS b (opS b)) s):=by
  intro l
  induction l with
  | nil=>intro s _ h; exact h
  | cons i l ih =>
   intro s hl h
   refine ih _ (fun j hj=>hl j (List.mem_cons_of_mem _ hj)) ?_
   unfold ldS
   split
   ·rename_i hld
    unfold opS
    split
    ·exact .inr ⟨i,hl i (by simp),hld,rfl⟩
    ·exact h
   ·exact h
 exact key _ _ (fun i hi=>by simpa using hi) (.inl rfl)
end Go.Proofs.Ytbibdnlbpjnieaa
namespace Go.Proofs.Ytbibdnlbpjnieaa
open Go Go.Abs
theorem top_spec {b:Br} (hb:okB b=true):(opF b).t=tp0 b∨∃ i:Nat,i < b.ports.length∧(opF b).t.via=i∧bidP (opF b).t.rp (opF b).t.rn∧lt2 (opF b).t.rp (opF b).t.rn b.p b.n∧(0 < (opF b).t.cost∧(opF b).t.cost≤1048576)∧0≤(opF b).t.age∧(opF b).t.age≤20:=by
 have hl:=okB_len hb
 simp only [okL] at hl
 rcases opF_inv b with h|⟨i,hi,hld,h⟩
 ·exact .inl h
 ·right
  rw [h]
  have h2:=okB_at hb (i:=i) (by omega)
  rw [okAt,decide_eq_true_eq] at h2
  simp only [leads,Bool.and_eq_true,Bool.not_eq_true',decide_eq_false_iff_not,decide_eq_true_eq] at hld
  have hh:=h2.2.2.2.1 hld.1.1
  have hc:=h2.2.2.1
  simp only [helloP] at hh
  refine ⟨i,by omega,rfl,hh.1.1,hld.2,?_,?_⟩
  ·have:=hld.1.2
   simp only [ofr] at this ⊢
   omega
  ·simp only [ofr]; omega
theorem bid_of {b:Br} (hb:okB b=true):bidP b.p b.n:=by
 rw [okB,Bool.and_eq_true,Bool.and_eq_true] at hb
 exact of_decide_eq_true hb.1.2
theorem clm_ok {b:Br} (hb:okB b=true) {i:Nat} (hi:i < b.ports.length):helloP (clm b (opF b).t i):=by
 have h2:=okB_at hb hi
 rw [okAt,decide_eq_true_eq] at h2
 have hp:=h2.1
 have hbid:=bid_of hb
 rcases top_spec hb with h|⟨j,h1,h3,h4,h5,h6,h7⟩
 ·rw [h]
  simp only [helloP,clm,tp0]
  exact ⟨⟨hbid,hbid,by omega,by omega⟩,by omega⟩
 ·simp only [helloP,clm]
  exact ⟨⟨h4,hbid,by omega,by omega⟩,by omega⟩
end Go.Proofs.Ytbibdnlbpjnieaa
namespace Go.Proofs.Ytbibdnlbpjnieaa
open Go Go.Abs
structure NwOk (w:Nw):Prop where
 t:okT w.t=true
 rank:rankL w.t w.prios=true
 bl:(w.bs.length:Int)=w.t.nodes
 dl:w.down.length=w.t.links.length
 vb:vBs w w.bs
theorem okN_ok {w:Nw} (h:okN w=true) (hz:zOk w):NwOk w:=by
 simp only [okN,Bool.and_eq_true] at h
 obtain ⟨h1,h2,h3,h4,h5⟩:=h
 have h3:=of_decide_eq_true h3
 have h4:=of_decide_eq_true h4
 refine ⟨h1,h2,h3,h4,rfl,fun n x hx hs=>?_⟩
 have hn:n < w.bs.length:=(List.getElem?_eq_some_iff.1 hx).1
 have hbx:bxA w n=x:=by simp [bxA,hx]
 have h6:=List.all_eq_true.1 h5 n (List.mem_range.2 hn)
 rw [soundN,if_neg (by rw [hs]; simp),hbx] at h6
 simp only [Bool.and_eq_true] at h6
 obtain ⟨a1,a2,a3,a4,a5⟩:=h6
 have a2:=of_decide_eq_true a2
 refine ⟨?_,⟨a1,a2.1,a2.2,of_decide_eq_true a3,of_decide_eq_true a4⟩⟩
 cases hz':x.z with
 | false=>rfl
 | true =>
  have:=(hz n hn (by rw [hbx]; exact hz')).1
  rw [hs] at this; cases this
theorem rankL_len {t:Tpo} {l:List Int} (h:rankL t l=true):(l.length:Int)=t.nodes:=by
 simp only [rankL,Bool.and_eq_true] at h; exact of_decide_eq_true h.1
theorem vBs_cpX {w:Nw} {bs:List Bx} (h:vBs w bs):vBs w (bs.map cpX):=by
 refine ⟨by simpa using h.1,fun n x hx hs=>?_⟩
 rw [List.getElem?_map,Option.map_eq_some_iff] at hx
 obtain ⟨y,hy,rfl⟩:=hx
 obtain ⟨h1,h2⟩:=h.2 n y hy hs
 rw [cpX,if_neg (by rw [h1]; simp)]
 exact ⟨rfl,h2⟩
def sentW (w:Nw) (bs:List Bx):List (Option (List Hd)):=(List.range w.bs.length).map (sentAt w.t bs)
def rndB (w:Nw) (bs:List Bx) (mr:Nat):List Bx × Nat :=
 (List.range w.bs.length).foldl (stS w.t (tkN w)) ((List.range w.bs.length).foldl (stS w.t (rcvN w (sentW w bs))) (bs,mr))
theorem sent_ok {w:Nw} {bs:List Bx} (h:vBs w bs):sentOk w (sentW w bs):=by
 refine ⟨by simp [sentW],fun n hn hs=>?_⟩
 obtain ⟨x,hx⟩:∃ x,bs[n]? = some x:=⟨bs[n]'(by rw [h.1]; exact hn),by simp [h.1,hn]⟩
 obtain ⟨h1,h2⟩:=h.2 n x hx hs
 refine ⟨sends x.b,?_,?_,?_⟩
 ·rw [sentW,List.getElem?_map,List.getElem?_range hn,Option.map_some,sentAt,if_neg (by rw [hs]; simp),hx]; rfl
 ·rw [sends,h2.ports]; simp
 ·intro m hm hi
  simp only [sends,List.mem_map,List.mem_range] at hm
  obtain ⟨i,hi',rfl⟩:=hm
  unfold sentF at hi ⊢
  split at hi
  ·rename_i h3; rw [if_pos h3]; exact clm_ok h2.ok hi'
  ·exact (by cases hi)
def rcvL (w:Nw) (S:List (Option (List Hd))) (bs:List Bx) (n:Nat):List Bx :=
 (List.range ((S[n]?.getD none).getD []).length).foldl (fun s i=>rcvP w s ((trunkL w.t n)[i]?.getD 0) (((S[n]?.getD none).getD [])[i]?.getD zH)) bs
def tkL (bs:List Bx) (n:Nat):List Bx:=bs.set n (tkB (bs[n]?.getD zBx).b)
def rndL (w:Nw) (bs:List Bx):List Bx:=(List.range w.bs.length).foldl (stS w.t tkL) ((List.range w.bs.length).foldl (stS w.t (rcvL w (sentW w bs))) bs)
theorem fold_fst {α σ τ:Type} (f:σ × τ→α→σ × τ) (g:σ→α→σ) (h:∀ s a,(f s a).1=g s.1 a):∀ (l:List α) (s:σ × τ),(l.foldl f s).1=l.foldl g s.1:=by
 intro l
 induction l with
 | nil=>intro s; rfl
 | cons a l ih=>intro s; rw [List.foldl_cons,List.foldl_cons,ih,h]
theorem rcvN_fst (w:Nw) (S:List (Option (List Hd))) (s:List Bx × Nat) (n:Nat):(rcvN w S s n).1=rcvL w S s.1 n:=fold_fst _ _ (fun _ _=>rfl) _ _
theorem stS_fst {σ τ:Type} (t:Tpo) (f:σ × τ→Nat→σ × τ) (g:σ→Nat→σ) (h:∀ s a,(f s a).1=g s.1 a) (s:σ × τ) (n:Nat):(stS t f s n).1=stS t g s.1 n:=by
 unfold stS
 split
 ·rfl
 ·exact h s n
theorem rndB_fst (w:Nw) (bs:List Bx) (mr:Nat):(rndB w bs mr).1=rndL w bs:=by
 rw [rndB,fold_fst _ _ (stS_fst w.t (tkN w) tkL (fun _ _=>rfl)),fold_fst _ _ (stS_fst w.t _ _ (rcvN_fst w _))]
 rfl
theorem rcv_all {w:Nw} {S:List (Option (List Hd))} (hS:sentOk w S) {s:List Bx × Nat} (h:vBs w s.1) (h2:s.2≤w.bs.length):vBs w ((List.range w.bs.length).foldl (stS w.t (rcvN w S)) s).1∧((List.range w.bs.length).foldl (stS w.t (rcvN w S)) s).2≤w.bs.length :=
 fold_ok (fun s n hn hs h=>rcvN_ok hS h.1 h.2 hn hs) ⟨h,h2⟩ _ (Nat.le_refl _)
theorem tk_all {w:Nw} {s:List Bx × Nat} (h:vBs w s.1) (h2:s.2≤w.bs.length):vBs w ((List.range w.bs.length).foldl (stS w.t (tkN w)) s).1∧((List.range w.bs.length).foldl (stS w.t (tkN w)) s).2≤w.bs.length :=
 fold_ok (fun s n hn hs h=>tkN_ok h.1 h.2 hn hs) ⟨h,h2⟩ _ (Nat.le_refl _)
theorem rIter_nil (cut:Nat→Bool):∀ (n:Nat) (r:List Bool),rIter cut [] n r=r:=by
 intro n
 induction n with
 | zero=>intro r; rfl
 | succ n ih=>intro r; rw [rIter,rRound,ih]
theorem links_ne {t:Tpo} (h:okT t=true):t.links≠[]:=by
 intro hl
 obtain ⟨⟨z1,z1'⟩,z2,z3⟩:=okT_size h
 simp only [okT,Bool.and_eq_true,Bool.not_eq_true',decide_eq_false_iff_not] at h
 apply h.2.2.2
 rw [reachL,hl,rIter_nil]
 obtain ⟨m,hm⟩:∃ m,t.nodes.toNat=m+2:=⟨t.nodes.toNat - 2,by omega⟩
 rw [hm]
 simp [List.replicate_succ]
theorem sent_frz (w:Nw) (S:List (Option (List Hd))) (hsl:S.length=w.bs.length) (mrs:Nat) (hmrs:mrs≤w.bs.length) (hx:Heap) (hg:hx[10]? = some (.row 1 ((S.map encS).map AV.t) mrs)):frzObj hx (fromB 7) (.row 7 [.agg (nwA 3 5 w++[AV.ms 10 w.bs.length 0 w.bs.length 1 true])] 1)=some (.row 7 [.agg (nwA 3 5 w++[AV.t (sentT S)])] 1):=by
 have hms:frz hx (fromB 7) (.ms 10 w.bs.length 0 w.bs.length 1 true)=some (.t (sentT S)):=frz_msr rfl hg hmrs hsl.symm
 have ha:avoidAll (fromB 7) (nwA 3 5 w++[AV.ms 10 w.bs.length 0 w.bs.length 1 true])=false:=by simp [nwA,avoidAll,avoid,fromB]
 have h3:frz hx (fromB 7) (.ms 3 w.down.length 0 w.down.length 1 false)=some (.ms 3 w.down.length 0 w.down.length 1 false):=frz_ms rfl
 have h5:frz hx (fromB 7) (.ms 5 w.bs.length 0 w.bs.length 5 true)=some (.ms 5 w.bs.length 0 w.bs.length 5 true):=frz_ms rfl
 have hag:frz hx (fromB 7) (.agg (nwA 3 5 w++[AV.ms 10 w.bs.length 0 w.bs.length 1 true]))=some (.agg (nwA 3 5 w++[AV.t (sentT S)])):=by
  rw [frz_aggN (cs':=nwA 3 5 w++[AV.t (sentT S)]) ha (by simp only [nwA,List.cons_append,List.nil_append,mapO,frzCell_t,frzCell_ms,h3,h5,hms])]
  rfl
 have ha2:avoidAll (fromB 7) [.agg (nwA 3 5 w++[AV.ms 10 w.bs.length 0 w.bs.length 1 true])]=false:=by rw [av_cons,av_agg,ha]; rfl
 simp only [frzObj,ha2,mapO,hag,Bool.false_eq_true,if_false]
theorem Round_ok (f:Fl) (w:Nw) (hz:zOk w) (hok:okN w=true) (hb6:∀ x∈w.bs,x.b.ports.length≤900∧x.b.costs.length≤900∧x.b.heard.length≤900):ans Try.prog pol 21 [nwT f w]=some (.tup [nwT ⟨false,false,false,false,true⟩ ⟨w.t,w.prios,w.down,rndL w (w.bs.map cpX)⟩,I 0]):=by
 have hO:=okN_ok hok hz
 obtain ⟨z1,z2,z3⟩:=okT_size hO.t
 have hpl:=rankL_len hO.rank
 have hbl:=hO.bl
 have hdl:=hO.dl
 have k1:=CheckN_ans f w hz (by omega) (by omega)
 rw [if_pos hok] at k1
 have hne:w.down≠[]:=by
  have h:=(links_ne hO.t)
  intro hd; rw [hd] at hdl; exact h (List.eq_nil_of_length_eq_zero hdl.symm)
 obtain ⟨nn,h2000⟩:∃ nn,2000 < nn:=⟨2001,by omega⟩
 have hn1:1000 < nn+9:=by omega
 have hn2:200 < nn+9:=by omega
 have hn3:200 < nn+8:=by omega
 have hn4:200 < nn+7:=by omega
 refine ans_go (nn+9) 5 il21_eq (Nat.le_of_ble_eq_true rfl) ?_
 (have hc:=hc0; repeat' first|simp only [hc,il21c,go_sem,k1]|((with_reducible first|refine wG (fun hc=>?_) fun hc=>?_|refine wC (fun hc=>?_) fun hc=>?_|refine wD ?_|refine wT ?_|refine wM fun _=>?_|refine wL fun _=>?_) <;> try simp only [bq1,bq2] at hc)|((with_reducible first|refine wA ?_ ?_|refine wE ?_); rfl))
 refine copied_fresh f w hne (by omega) (by omega) (by omega) (by omega) (by omega) hb6 2 3 (nn+9) hn1 _ ?_
 intro mr hmr
 have hv1:=vBs_cpX hO.vb
 rw [← rndB_fst w _ mr]
 have a1:avoidAll (belowB 2) [.agg (nwA 3 5 w)]=true:=by simp [nwA,avoidAll,avoid,belowB]
 have h100:w.bs.length≤100:=by omega
 have hrb:rndB w (w.bs.map cpX) mr=(List.range w.bs.length).foldl (stS w.t (tkN w)) ((List.range w.bs.length).foldl (stS w.t (rcvN w (sentW w (w.bs.map cpX)))) (w.bs.map cpX,mr)):=rfl
 rw [hrb]
 have hso:=sent_ok hv1
 have hr1:=rcv_all hso (s:=(w.bs.map cpX,mr)) hv1 hmr
 have c1:=send_ok w (w.bs.map cpX) mr hmr ⟨by simp,fun n x hx hs=>⟨(hv1.2 n x hx hs).1,(hv1.2 n x hx hs).2.ok⟩⟩ z2 hbl h100 2 (nn+9) hn2
 have c2:=@receive_ok w hO.t hdl hbl (sentW w (w.bs.map cpX)) hso (w.bs.map cpX) mr hmr hv1 2 (nn+9) hn2
 have c3:=@tick_ok w hO.t hbl (sentT (sentW w (w.bs.map cpX))) _ _ hr1.2 hr1.1 2 (nn+9) hn2
 have hr2:=tk_all hr1.1 hr1.2
 generalize (List.range w.bs.length).foldl (stS w.t (rcvN w (sentW w (w.bs.map cpX)))) (w.bs.map cpX,mr)=r1 at *
 have hsw:((List.range w.bs.length).map (sentAt w.t (w.bs.map cpX)))=sentW w (w.bs.map cpX):=rfl
 rw [hsw] at c1
 have hsl:(sentW w (w.bs.map cpX)).length=w.bs.length:=by simp [sentW]
 generalize sentW w (w.bs.map cpX)=S at *
 have hl1:=hr1.1.1
 generalize (List.range w.bs.length).foldl (stS w.t (tkN w)) (r1.1,r1.2)=r2 at *
 simp only [nwA,bsRow,dnRow,rdH,List.cons_append,List.nil_append] at a1 c1 c2 c3 ⊢
 (have hc:=hc0; repeat' first|simp only [hc,freshK_app,List.replicate_succ,List.replicate_zero,List.drop_succ_cons,List.drop_zero,List.cons_append,List.nil_append,go_sem,av_map,a1,List.drop_succ_cons,List.drop_zero]|((with_reducible first|refine wG (fun hc=>?_) fun hc=>?_|refine wC (fun hc=>?_) fun hc=>?_|refine wD ?_|refine wT ?_|refine wM fun _=>?_|refine wL fun _=>?_) <;> try simp only [bq1,bq2] at hc)|((with_reducible first|refine wA ?_ ?_|refine wE ?_); rfl)|((with_reducible refine iter_unroll (body:=wc _ _ _ _ _ _ il21l0) ?_ ?_); exact Nat.le_of_ble_eq_true rfl; simp only [il21l0_go,il21l0b]))
 with_reducible refine @c1 _ ?_
 intro mrs hmrs
 have hcut:∀ hx:Heap,hx[10]? = some (.row 1 ((S.map encS).map AV.t) mrs)→frzObj hx (fromB 7) (.row 7 [.agg [AV.t (I w.t.nodes),AV.t (T.sl false 1 (List.map B w.t.station)),AV.t (T.sl false 4 (List.map encK w.t.links)),AV.t (T.sl false 1 (List.map I w.prios)),AV.ms 3 w.down.length 0 w.down.length 1 false,AV.ms 5 w.bs.length 0 w.bs.length 5 true,AV.ms 10 w.bs.length 0 w.bs.length 1 true]] 1)
   = some (.row 7 [.agg [AV.t (I w.t.nodes),AV.t (T.sl false 1 (List.map B w.t.station)),AV.t (T.sl false 4 (List.map encK w.t.links)),AV.t (T.sl false 1 (List.map I w.prios)),AV.ms 3 w.down.length 0 w.down.length 1 false,AV.ms 5 w.bs.length 0 w.bs.length 5 true,AV.t (sentT S)]] 1):=fun hx hg=>sent_frz w S hsl mrs hmrs hx hg
 (have hc:=hc0; repeat' first|simp only [hc,freshK_app,go_sem,frz_mapA,hcut]|((with_reducible first|refine wG (fun hc=>?_) fun hc=>?_|refine wC (fun hc=>?_) fun hc=>?_|refine wD ?_|refine wT ?_|refine wM fun _=>?_|refine wL fun _=>?_) <;> try simp only [bq1,bq2] at hc)|((with_reducible first|refine wA ?_ ?_|refine wE ?_); rfl)|((with_reducible refine iter_unroll (body:=wc _ _ _ _ _ _ il21l0) ?_ ?_); exact Nat.le_of_ble_eq_true rfl; simp only [il21l0_go,il21l0b]))
 with_reducible refine @c2 _ ?_
 (have hc:=hc0; repeat' first|simp only [hc,freshK_app,go_sem,frz_mapA]|((with_reducible first|refine wG (fun hc=>?_) fun hc=>?_|refine wC (fun hc=>?_) fun hc=>?_|refine wD ?_|refine wT ?_|refine wM fun _=>?_|refine wL fun _=>?_) <;> try simp only [bq1,bq2] at hc)|((with_reducible first|refine wA ?_ ?_|refine wE ?_); rfl)|((with_reducible refine iter_unroll (body:=wc _ _ _ _ _ _ il21l0) ?_ ?_); exact Nat.le_of_ble_eq_true rfl; simp only [il21l0_go,il21l0b]))
 with_reducible refine @c3 _ ?_
 obtain ⟨hr3,hr4⟩:=hr2
 have hl2:((r2.1.map encX).map AV.t).length=w.bs.length:=by simp [hr3.1]
 (have hc:=hc0; repeat' first|simp only [hc,freshK_app,go_sem,frz_mapA,hr4,hl2]|((with_reducible first|refine wG (fun hc=>?_) fun hc=>?_|refine wC (fun hc=>?_) fun hc=>?_|refine wD ?_|refine wT ?_|refine wM fun _=>?_|refine wL fun _=>?_) <;> try simp only [bq1,bq2] at hc)|((with_reducible first|refine wA ?_ ?_|refine wE ?_); rfl)|((with_reducible refine iter_unroll (body:=wc _ _ _ _ _ _ il21l0) ?_ ?_); exact Nat.le_of_ble_eq_true rfl; simp only [il21l0_go,il21l0b]))
end Go.Proofs.Ytbibdnlbpjnieaa
namespace Go.Proofs.Ytbibdnlbpjnieaa
open Go Go.Abs
section
variable (f:Fl) (w:Nw) (k:Int) (hz:zOk w)
include hz
end
end Go.Proofs.Ytbibdnlbpjnieaa
namespace Go.Proofs.Ytbibdnlbpjnieaa
open Go Go.Abs
def fgB (b:Br) (i:Nat):Bx:=⟨false,true,true,true,putB b (b.heard.set i zH)⟩
def fgQ (w:Nw) (j n:Nat) (s:List Bx × Nat) (i:Nat) (p:Nat):List Bx × Nat:=if p / 2=j then (s.1.set n (fgB (s.1[n]?.getD zBx).b i),w.bs.length) else s
def fgN (w:Nw) (j:Nat) (s:List Bx × Nat) (n:Nat):List Bx × Nat:=(List.range (trunkL w.t n).length).foldl (fun s i=>fgQ w j n s i ((trunkL w.t n)[i]?.getD 0)) s
theorem okH_no:okH zH:=⟨fun h=>((by cases h)),fun _=>rfl⟩
theorem VB.forget {w:Nw} {n:Nat} {b:Br} (h:VB w n b) (i:Nat):VB w n (putB b (b.heard.set i zH)):=by
 refine h.put (by simp) fun x hx=>?_
 rcases List.mem_or_eq_of_mem_set hx with h1|rfl
 ·exact okB_all h.ok x h1
 ·exact okH_no
theorem fgQ_ok {w:Nw} {j n i p:Nat} {s:List Bx × Nat} (h:vBs w s.1) (h2:s.2≤w.bs.length) (hst:stA w.t n=false):vBs w (fgQ w j n s i p).1∧(fgQ w j n s i p).2≤w.bs.length:=by
 unfold fgQ
 split
 ·refine ⟨⟨by simpa using h.1,fun m x hx hs=>?_⟩,Nat.le_refl _⟩
  simp only [List.getElem?_set] at hx
  split at hx
  ·rename_i hm
   split at hx
   ·rename_i hlt
    obtain rfl:=Option.some.inj hx
    subst hm
    obtain ⟨y,hy⟩:∃ y,s.1[n]? = some y:=⟨s.1[n]'hlt,by simp [hlt]⟩
    obtain ⟨_,hv⟩:=h.2 n y hy hst
    rw [hy]
    exact ⟨rfl,hv.forget _⟩
   ·cases hx
  ·exact h.2 m x hx hs
 ·exact ⟨h,h2⟩
theorem fgN_ok {w:Nw} {j n:Nat} {s:List Bx × Nat} (h:vBs w s.1) (h2:s.2≤w.bs.length) (hst:stA w.t n=false):vBs w (fgN w j s n).1∧(fgN w j s n).2≤w.bs.length:=by
 unfold fgN
 generalize (trunkL w.t n).length=k
 induction k with
 | zero=>exact ⟨h,h2⟩
 | succ k ih =>
  rw [List.range_succ,List.foldl_append,List.foldl_cons,List.foldl_nil]
  exact fgQ_ok ih.1 ih.2 hst
noncomputable def lpCu (rf:Code × Code) (E:FEnv) (busy:Bool):AObj:=.loop 13 (lpEnv 77 (tidyF (some [3,4,5,7]) E)) [39,40] rf.1 rf.2 busy none
noncomputable def hpCu (w:Nw) (j:Nat) (rf:Code × Code) (E:FEnv) (busy:Bool) (s:List Bx × Nat):Heap :=
 [.row 6 [.t zN6] 0,.row 1 [.t (I 0)] 0,.row 6 [.agg (nwA 3 5 w)] 1,.row 1 (((w.down.set j true).map B).map .t) w.down.length,.row 6 [.agg (nwA 3 5 w)] 1,bsRow s.1 s.2,.row 6 [.agg (nwA 3 5 w)] 1,.row 6 [.agg (nwA 3 5 w)] 0,lpCu rf E busy]
theorem lpCu_frz (j:Nat) (rf:Code × Code) (E:FEnv) (hE:E 3=.t (.ip [I (j:Nat)])∧E 4=.ref 0 1 0 0∧E 5=.ref 1 1 0 0∧E 7=.ref 6 1 0 0) (busy:Bool) (h:Heap) (q:Nat) (hq:9≤q):frzObj h (fromB q) (lpCu rf E busy)=some (lpCu rf E busy):=by
 have f0:decide (q≤0)=false:=decide_eq_false (by omega)
 have f1:decide (q≤1)=false:=decide_eq_false (by omega)
 have f7:decide (q≤6)=false:=decide_eq_false (by omega)
 rw [lpCu,frz_loop]
 simp only [go_sem,hE,f0,f1,f7]
theorem hpCu_frz (w:Nw) (j:Nat) (rf:Code × Code) (E:FEnv) (hE:E 3=.t (.ip [I (j:Nat)])∧E 4=.ref 0 1 0 0∧E 5=.ref 1 1 0 0∧E 7=.ref 6 1 0 0) (busy:Bool) (s:List Bx × Nat) (h:Heap) (q:Nat) (hq:9≤q):mapO (frzObj h (fromB q)) (hpCu w j rf E busy s)=some (hpCu w j rf E busy s):=by
 have f4:decide (q≤3)=false:=decide_eq_false (by omega)
 have f6:decide (q≤5)=false:=decide_eq_false (by omega)
 have a1:avoidAll (fromB q) [.agg (nwA 3 5 w)]=true:=by simp [nwA,avoidAll,avoid,fromB,f4,f6]
 have a4:∀ x:T,avoidAll (fromB q) [.t x]=true:=fun x=>by simp [avoidAll,avoid]
 simp only [hpCu,bsRow,mapO,lpCu_frz j rf E hE busy h q hq,frz_mapA,frz_rowA a1,frz_rowA (a4 _)]
theorem cut_l0 (w:Nw) (hok:okT w.t=true) (hbl:(w.bs.length:Int)=w.t.nodes) (j:Nat) (rf:Code × Code) (E:FEnv) (hE:E 3=.t (.ip [I (j:Nat)])∧E 4=.ref 0 1 0 0∧E 5=.ref 1 1 0 0∧E 7=.ref 6 1 0 0) (c1 c2 c3:Bool) (b:Br) (n:Nat) (hn:n < w.bs.length) (hpo:b.ports=(trunkL w.t n).map ofN) (hnn:stA w.t n=false)
  (s:List Bx × Nat) (hv:vBs w s.1) (hmr:s.2≤w.bs.length) (dd nn:Nat) (hnn':200 < nn) (R:Xit→FEnv→Heap→Prop) (e:FEnv)
  (he:e 3=.t (.ip [I (j:Nat)])∧e 4=.ref 0 1 0 0∧e 5=.ref 1 1 0 0∧e 7=.ref 6 1 0 0∧e 8=.t (I (n:Nat))∧e 42=.t (.sl c1 1 (b.ports.map I))∧e 43=.t (I (b.ports.length:Nat))∧e 44=.t (I 0))
  (hR:∀ e,(e 3=.t (.ip [I (j:Nat)])∧e 4=.ref 0 1 0 0∧e 5=.ref 1 1 0 0∧e 7=.ref 6 1 0 0)→R (.exit 2) e (hpCu w j rf E true (fgN w j s n)++[.row 5 [.t (.agg (brC c1 c2 c3 b))] 1,.row 5 [.t (.agg (brC c1 c2 c3 b))] 1])) :
  wpIter 11 (some [3,4,5,7,8,42,43,44]) (wc Try.prog pol (ans Try.prog pol) (inl Try.prog pol (ans Try.prog pol) nn dd) nn 13 il13l0) R nn e (hpCu w j rf E true s++[.row 5 [.t (.agg (brC c1 c2 c3 b))] 1,.row 5 [.t (.agg (brC c1 c2 c3 b))] 1]):=by
 obtain ⟨z1,z2,z3⟩:=okT_size hok
 have htl:=trunk_len w.t n
 refine loop_range b.ports I (step:=fun i p s=>.go (fgQ w j n s i ((trunkL w.t n)[i]?.getD 0))) (fin:=id)
  (St:=fun i s e h=>(e 3=.t (.ip [I (j:Nat)])∧e 4=.ref 0 1 0 0∧e 5=.ref 1 1 0 0∧e 7=.ref 6 1 0 0∧e 8=.t (I (n:Nat))∧e 42=.t (.sl c1 1 (b.ports.map I))∧e 43=.t (I (b.ports.length:Nat))∧e 44=.t (I (i:Nat)))∧(vBs w s.1∧s.2≤w.bs.length)∧h=hpCu w j rf E true s++[.row 5 [.t (.agg (brC c1 c2 c3 b))] 1,.row 5 [.t (.agg (brC c1 c2 c3 b))] 1])
  (Ex:=fun s x e h=>(e 3=.t (.ip [I (j:Nat)])∧e 4=.ref 0 1 0 0∧e 5=.ref 1 1 0 0∧e 7=.ref 6 1 0 0)∧x=.exit 2∧h=hpCu w j rf E true s++[.row 5 [.t (.agg (brC c1 c2 c3 b))] 1,.row 5 [.t (.agg (brC c1 c2 c3 b))] 1]) (s:=s) (by rw [hpo]; simp; omega) ?_ ?_ (by rw [hpo]; simp; omega) ⟨he,⟨hv,hmr⟩,rfl⟩ ?_
 ·intro i p ss e hp Y R hm hi hx hget hlt hw ⟨hs',⟨hv,hmr⟩,hhp⟩ hk
  subst hhp
  have hv2:=fgQ_ok (w:=w) (j:=j) (n:=n) (i:=i) (p:=(trunkL w.t n)[i]?.getD 0) hv hmr hnn
  obtain ⟨s,mr⟩:=ss
  dsimp only at hv hmr
  simp only [ctlK_go] at hk
  obtain ⟨q,hq,hpq⟩:∃ q,(trunkL w.t n)[i]? = some q∧p=ofN q:=by
   rw [hpo,List.getElem?_map,Option.map_eq_some_iff] at hx
   obtain ⟨q,h1,h2⟩:=hx
   exact ⟨q,h1,h2.symm⟩
  subst hpq
  rw [hq] at hk hv2
  simp only [Option.getD_some] at hk hv2
  have v2:IntKind.i64.wrap (Int.tdiv (q:Nat) 2)=((q / 2:Nat):Int):=by rw [tdiv2]; exact wrap_i64 (by omega) (by have:=trunk_lt (List.mem_of_getElem? hq); omega)
  have fzl:∀ hx:Heap,frzObj hx (fromB 11) (lpCu rf E true)=some (lpCu rf E true):=fun hx=>lpCu_frz j rf E hE true hx 11 (by omega)
  have hi':i < b.ports.length:=hi
  simp only [hpCu,List.cons_append,List.nil_append,nwA,bsRow] at hk ⊢
  by_cases hqj:q / 2=j
  ·have d1:decide (((q / 2:Nat):Int)=(j:Nat))=true:=decide_eq_true (by omega)
   obtain ⟨y,hy⟩:∃ y,s[n]? = some y:=⟨s[n]'(by rw [hv.1]; exact hn),by simp [hv.1,hn]⟩
   obtain ⟨yz,yv⟩:=hv.2 n y hy hnn
   have hr:fgQ w j n (s,mr) i q=(s.set n (fgB y.b i),w.bs.length):=by rw [fgQ,if_pos hqj]; simp only [hy,Option.getD_some]
   rw [hr] at hk hv2
   obtain ⟨yz',x1,x2,x3,yb⟩:=y
   dsimp only at yz yv hk hv2
   subst yz
   have k4:=Forget_ok x1 x2 x3 yb i yv.ok (by rw [yv.ports,← hpo]; exact hi)
   have gx:((s.map encX).map AV.t)[n]? = some (.t (.agg (brC x1 x2 x3 yb))):=map_get (enc:=encX) hy
   have hsl:((s.map encX).map AV.t).length=w.bs.length:=by simp [hv.1]
   have hset:=map_set (enc:=encX) (l:=s) (i:=n) (x:=fgB yb i)
   have hex:encX (fgB yb i)=brT true true true (putB yb (yb.heard.set i zH)):=rfl
   rw [hex] at hset
   have hav:∀ (q:Nat→Bool) (y:T),avoidAll q (((s.map encX).map AV.t).set n (.t y))=true:=fun q y=>by rw [← List.map_set,av_map]
   rw [← hset] at hk
   generalize putB yb (yb.heard.set i zH)=B' at *
   (repeat' first|simp only [il13l0_go,il13l0b,go_sem,hs',hget,hlt,hw,ofN,v2,d1,k4,gx,hsl,hn,hmr,hav,frz_mapA,fzl]|(with_reducible first|apply wD|apply wT|(apply wM; intro)|(apply wL; intro))|((with_reducible first|refine wA ?_ ?_|refine wE ?_); rfl))
   all_goals (refine hk _ _ ⟨?_,hv2,?_⟩ <;> simp only [go_sem,hs',hw])
  ·have d1:decide (((q / 2:Nat):Int)=(j:Nat))=false:=decide_eq_false (by omega)
   have hr:fgQ w j n (s,mr) i q=(s,mr):=by rw [fgQ,if_neg hqj]
   rw [hr] at hk
   (repeat' first|simp only [il13l0_go,il13l0b,go_sem,hs',hget,hlt,hw,ofN,v2,d1,frz_mapA,fzl]|(with_reducible first|apply wD|apply wT|(apply wM; intro)|(apply wL; intro))|((with_reducible first|refine wA ?_ ?_|refine wE ?_); rfl))
   all_goals (refine hk _ _ ⟨?_,⟨hv,hmr⟩,?_⟩ <;> simp only [go_sem,hs',hw])
 ·intro s e h Y R hlt ⟨hs',_,hh⟩ hk
  subst hh
  (repeat' first|simp only [il13l0_go,il13l0b,go_sem,hs',hlt]|(with_reducible first|apply wD|apply wT|(apply wM; intro)|(apply wL; intro))|((with_reducible first|refine wA ?_ ?_|refine wE ?_); rfl))
  all_goals (refine hk _ _ _ ⟨?_,rfl,rfl⟩; simp only [go_sem,hs',id])
 ·intro x e h ⟨h1,h2,h3⟩
  have hf:∀ (r:List Int) (i:Nat) (s:List Bx × Nat),foldC (ρ:=List Bx × Nat) (fun i _ s=>Ctl.go (fgQ w j n s i ((trunkL w.t n)[i]?.getD 0))) id i r s=(List.range' i r.length).foldl (fun s k=>fgQ w j n s k ((trunkL w.t n)[k]?.getD 0)) s:=by
   intro r
   induction r with
   | nil=>intro i s; rfl
   | cons x r ih =>
    intro i s
    rw [foldC_go (s':=fgQ w j n s i ((trunkL w.t n)[i]?.getD 0)) rfl,ih,List.length_cons,List.range'_succ,List.foldl_cons]
  rw [hf,← List.range_eq_range'] at h3
  have hlen:b.ports.length=(trunkL w.t n).length:=by rw [hpo]; simp
  rw [hlen] at h3
  have hgo:h=hpCu w j rf E true (fgN w j s n)++[.row 5 [.t (.agg (brC c1 c2 c3 b))] 1,.row 5 [.t (.agg (brC c1 c2 c3 b))] 1]:=h3
  subst h2 hgo
  exact hR _ h1
theorem cut_yield (rf:Code × Code) (hrf:rfOf Try.prog 13 0=rf) (w:Nw) (hok:okT w.t=true) (hbl:(w.bs.length:Int)=w.t.nodes) (j:Nat)
  (E:FEnv) (hE:E 3=.t (.ip [I (j:Nat)])∧E 4=.ref 0 1 0 0∧E 5=.ref 1 1 0 0∧E 7=.ref 6 1 0 0) (s:List Bx × Nat) (hv:vBs w s.1) (hmr:s.2≤w.bs.length) (n:Nat) (x:Bx) (hx:s.1[n]? = some x) (hst:stA w.t n=false) (dd nn:Nat) (hn:200 < nn) (Q:AV→Heap→Prop)
  (hQ:∀ X',Q (.t (B true)) (hpCu w j rf E false (fgN w j s n)++[.row 5 [.t (.agg (bxC x))] 1]++X')) :
  oB (inl Try.prog pol (ans Try.prog pol) nn (dd+1) (.yl 8) [.t (I (n:Nat)),.t (.agg (bxC x))] (hpCu w j rf E false s++[.row 5 [.t (.agg (bxC x))] 1])) Q:=by
 subst hrf
 obtain ⟨xz,xv⟩:=hv.2 n x hx hst
 have hnl:n < w.bs.length:=by rw [← hv.1]; exact (List.getElem?_eq_some_iff.1 hx).1
 obtain ⟨z,c1,c2,c3,b⟩:=x
 dsimp only at xz xv hQ
 subst xz
 have hbc:bxC ⟨false,c1,c2,c3,b⟩=brC c1 c2 c3 b:=rfl
 rw [hbc] at hQ ⊢
 have hq:=hQ [.row 5 [.t (.agg (brC c1 c2 c3 b))] 1]
 have key:([.row 6 [.t zN6] 0,.row 1 [.t (I 0)] 0,.row 6 [.agg (nwA 3 5 w)] 1,.row 1 (((w.down.set j true).map B).map .t) w.down.length,.row 6 [.agg (nwA 3 5 w)] 1,bsRow s.1 s.2,.row 6 [.agg (nwA 3 5 w)] 1,.row 6 [.agg (nwA 3 5 w)] 0,.loop 13 (lpEnv 77 (tidyF (some [3,4,5,7]) E)) [39,40] (rfOf Try.prog 13 0).1 (rfOf Try.prog 13 0).2 true none,.row 5 [.t (.agg (brC c1 c2 c3 b))] 1,.row 5 [.t (.agg (brC c1 c2 c3 b))] 1]:Heap)
   = hpCu w j (rfOf Try.prog 13 0) E true s++[.row 5 [.t (.agg (brC c1 c2 c3 b))] 1,.row 5 [.t (.agg (brC c1 c2 c3 b))] 1]:=rfl
 have hR:=fun (R:Xit→FEnv→Heap→Prop) (e:FEnv) he hR=>cut_l0 w hok hbl j (rfOf Try.prog 13 0) E hE c1 c2 c3 b n hnl xv.ports hst s hv hmr dd nn hn R e he hR
 rw [← key] at hR
 generalize fgN w j s n=s2 at *
 simp only [hpCu,lpCu,List.cons_append,List.nil_append,nwA,bsRow] at hq hR ⊢
 with_reducible refine oB_yl (E:=tidyF (some [3,4,5,7]) E) rfl rfl rfl il13r0a_eq il13r0b_eq ?_
 (repeat' first|simp only [il13r0a,il13r0b,go_sem,hE]|(with_reducible first|apply wD|apply wT|(apply wM; intro)|(apply wL; intro))|((with_reducible first|refine wA ?_ ?_|refine wE ?_); rfl))
 with_reducible refine hR _ _ (by simp only [go_sem,hE]) ?_
 intro e he
 (repeat' first|simp only [il13r0b,go_sem,he]|(with_reducible first|apply wD|apply wT|(apply wM; intro)|(apply wL; intro))|((with_reducible first|refine wA ?_ ?_|refine wE ?_); rfl))
 all_goals exact hq
end Go.Proofs.Ytbibdnlbpjnieaa
namespace Go.Proofs.Ytbibdnlbpjnieaa
open Go Go.Abs
def fgL (w:Nw) (j:Nat) (s:List Bx) (n:Nat):List Bx:=(List.range (trunkL w.t n).length).foldl (fun s i=>if ((trunkL w.t n)[i]?.getD 0) / 2=j then s.set n (fgB (s[n]?.getD zBx).b i) else s) s
theorem fgN_fst (w:Nw) (j:Nat) (s:List Bx × Nat) (n:Nat):(fgN w j s n).1=fgL w j s.1 n:=fold_fst _ _ (fun s i=>by unfold fgQ; split <;> rfl) _ _
def cutL (w:Nw) (j:Nat):List Bx:=(List.range w.bs.length).foldl (stS w.t (fgL w j)) (w.bs.map cpX)
section
variable (f:Fl) (w:Nw) (k:Int) (hz:zOk w)
include hz
theorem Cut_arg (hok:okN w=true) (hk:k < 0∨(w.t.links.length:Int)≤k):ans Try.prog pol 13 [nwT f w,I k]=some (.tup [zN6,I 2]):=by
 have hO:=okN_ok hok hz
 obtain ⟨z1,z2,z3⟩:=okT_size hO.t
 have hpl:=rankL_len hO.rank
 have hbl:=hO.bl
 have hdl:=hO.dl
 have k1:=CheckN_ans f w hz (by omega) (by omega)
 rw [if_pos hok] at k1
 refine ans_go 2000 5 il13_eq (Nat.le_of_ble_eq_true rfl) ?_
 by_cases q:k < 0
 ·have d1:=decide_eq_true q
  (repeat' first|simp only [il13c,go_sem,k1,d1]|(with_reducible first|apply wD|apply wT|(apply wM; intro)|(apply wL; intro))|((with_reducible first|refine wA ?_ ?_|refine wE ?_); rfl))
 ·have d1:=decide_eq_false q
  have d2:decide (((w.down.length:Nat):Int)≤k)=true:=decide_eq_true (by omega)
  (repeat' first|simp only [il13c,go_sem,k1,d1,d2]|(with_reducible first|apply wD|apply wT|(apply wM; intro)|(apply wL; intro))|((with_reducible first|refine wA ?_ ?_|refine wE ?_); rfl))
theorem Cut_ok (hok:okN w=true) (j:Nat) (hj:j < w.t.links.length) (hb6:∀ x∈w.bs,x.b.ports.length≤900∧x.b.costs.length≤900∧x.b.heard.length≤900):ans Try.prog pol 13 [nwT f w,I (j:Nat)]=some (.tup [nwT ⟨false,false,false,false,true⟩ ⟨w.t,w.prios,w.down.set j true,cutL w j⟩,I 0]):=by
 have hO:=okN_ok hok hz
 obtain ⟨z1,z2,z3⟩:=okT_size hO.t
 have hpl:=rankL_len hO.rank
 have hbl:=hO.bl
 have hdl:=hO.dl
 have k1:=CheckN_ans f w hz (by omega) (by omega)
 rw [if_pos hok] at k1
 have hne:w.down≠[]:=by
  have h:=(links_ne hO.t)
  intro hd; rw [hd] at hdl; exact h (List.eq_nil_of_length_eq_zero hdl.symm)
 have d1:decide (((j:Nat):Int) < 0)=false:=decide_eq_false (by omega)
 have d2:decide (((w.down.length:Nat):Int)≤((j:Nat):Int))=false:=decide_eq_false (by omega)
 obtain ⟨nn,h2000⟩:∃ nn,2000 < nn:=⟨2001,by omega⟩
 have hn1:1000 < nn:=by omega
 have hn2:200 < nn:=by omega
 refine ans_go nn 5 il13_eq (Nat.le_of_ble_eq_true rfl) ?_
 simp only [il13c]
 generalize hrf:rfOf Try.prog 13 0=rf
 (repeat' first|simp only [List.cons_append,List.nil_append,go_sem,k1,d1,d2]|(with_reducible first|apply wD|apply wT|(apply wM; intro)|(apply wL; intro))|((with_reducible first|refine wA ?_ ?_|refine wE ?_); rfl))
 with_reducible refine copied_fresh f w hne (by omega) (by omega) (by omega) (by omega) (by omega) hb6 2 3 nn hn1 _ ?_
 intro mr hmr
 have a1:avoidAll (belowB 2) [.agg (nwA 3 5 w)]=true:=by simp [nwA,avoidAll,avoid,belowB]
 have hdl2:((w.down.map B).map AV.t).length=w.down.length:=by simp
 have hjd:j < w.down.length:=by omega
 obtain ⟨y,hy⟩:∃ y,w.down[j]? = some y:=⟨w.down[j]'hjd,by simp [hjd]⟩
 have gy:((w.down.map B).map AV.t)[j]? = some (.t (B y)):=map_get (enc:=B) hy
 have hset:=map_set (enc:=B) (l:=w.down) (i:=j) (x:=true)
 have hl3:((((w.down.set j true)).map B).map AV.t).length=w.down.length:=by simp
 have hv1:=vBs_cpX hO.vb
 simp only [nwA,dnRow,bsRow,Nat.reduceAdd] at a1 ⊢
 (repeat' first|simp only [freshK_app,List.replicate_succ,List.replicate_zero,List.drop_succ_cons,List.drop_zero,List.cons_append,List.nil_append,go_sem,av_map,a1,List.drop_succ_cons,List.drop_zero,hdl2,hjd,gy,hset,hl3,hmr]|(with_reducible first|apply wD|apply wT|(apply wM; intro)|(apply wL; intro))|((with_reducible first|refine wA ?_ ?_|refine wE ?_); rfl)|((with_reducible refine oB_inl il26_eq ?_ ?_); exact Nat.le_of_ble_eq_true rfl; simp only [il26c]))
 have key:∀ E:FEnv,([.row 6 [.t zN6] 0,.row 1 [.t (I 0)] 0,.row 6 [.agg (nwA 3 5 w)] 1,.row 1 (((w.down.set j true).map B).map .t) w.down.length,.row 6 [.agg (nwA 3 5 w)] 1,bsRow (w.bs.map cpX) mr,.row 6 [.agg (nwA 3 5 w)] 1,.row 6 [.agg (nwA 3 5 w)] 0,.loop 13 (lpEnv 77 (tidyF (some [3,4,5,7]) E)) [39,40] rf.1 rf.2 false none]:Heap)=hpCu w j rf E false (w.bs.map cpX,mr):=fun E=>rfl
 simp only [nwA,bsRow] at key
 rw [key]
 have h89:8 < 9:=by omega
 have h79:7 < 9:=by omega
 have h59:5 < 9:=by omega
 have h01:0≤1:=by omega
 have hI0:vBs w (w.bs.map cpX,mr).1∧(w.bs.map cpX,mr).2≤w.bs.length:=⟨hv1,hmr⟩
 have hb100:w.bs.length≤100:=by omega
 have hnx:∀ (s:List Bx × Nat) n,n < w.bs.length→stA w.t n=false→vBs w s.1∧s.2≤w.bs.length→vBs w (fgN w j s n).1∧(fgN w j s n).2≤w.bs.length:=fun s n _ hs h=>fgN_ok h.1 h.2 hs
 let σ:={ s:List Bx × Nat // vBs w s.1∧s.2≤w.bs.length }
 let nx:σ→Nat→σ:=fun s n=>if h:n < w.bs.length∧stA w.t n=false then ⟨fgN w j s.1 n,hnx s.1 n h.1 h.2 s.2⟩ else s
 have hnxv:∀ (s:σ) n,n < w.bs.length→stA w.t n=false→(nx s n).1=fgN w j s.1 n:=fun s n h1 h2=>by simp only [nx]; rw [dif_pos ⟨h1,h2⟩]
 have hstv:∀ (s:σ) n,n < w.bs.length→(stS w.t nx s n).1=stS w.t (fgN w j) s.1 n:=fun s n h1=>by
  unfold stS
  by_cases q:stA w.t n=true
  ·rw [if_pos q,if_pos q]
  ·rw [if_neg q,if_neg q]; exact hnxv s n h1 (by simpa using q)
 have hfv:∀ (s:σ) k,k≤w.bs.length→((List.range k).foldl (stS w.t nx) s).1=(List.range k).foldl (stS w.t (fgN w j)) s.1:=by
  intro s k
  induction k with
  | zero=>intro _; rfl
  | succ k ih =>
   intro hk
   rw [List.range_succ,List.foldl_append,List.foldl_append,List.foldl_cons,List.foldl_cons,List.foldl_nil,List.foldl_nil,hstv _ _ (by omega),ih (by omega)]
 have hLs:∀ s:σ,s.1.1.length=w.bs.length:=fun s=>by have h:=s.2.1; unfold vBs at h; exact h.1
 have hs0:∀ E:FEnv,hpCu w j rf E false (w.bs.map cpX,mr)=(fun s:σ=>hpCu w j rf E false s.1) ⟨(w.bs.map cpX,mr),hI0⟩:=fun E=>rfl
 rw [hs0]
 have hcl:cutL w j=((List.range w.bs.length).foldl (stS w.t (fgN w j)) (w.bs.map cpX,mr)).1:=by
  rw [fold_fst _ _ (stS_fst w.t (fgN w j) (fgL w j) (fgN_fst w j))]; rfl
 have hfin:=fold_ok hnx hI0 w.bs.length (Nat.le_refl _)
 with_reducible refine @all_iterR σ (fun s:σ=>hpCu w j rf _ false s.1) 9 (fun s=>rfl) nx 4 nn 8 (fun n s=>True) w (fun _ _ _ _=>trivial) ?_ h89 7 3 5 0 h79 h01 h59 (fun s=>s.1.1) (fun s=>s.1.2) hLs (fun s=>s.2.2) (fun _ _=>rfl) (fun _ _=>rfl) z2 hbl hb100 ?_ ⟨(w.bs.map cpX,mr),hI0⟩ trivial _ hn2 ?_
 ·intro s h q hq
  exact hpCu_frz w j rf _ (by simp only [go_sem]) false s.1 h q hq
 ·intro s n x Q hx hs _ hQ
  have hnl:n < w.bs.length:=by rw [← hLs s]; exact (List.getElem?_eq_some_iff.1 hx).1
  have hQ':∀ X',Q (.t (B true)) (hpCu w j rf _ false (nx s n).1++[.row 5 [.t (.agg (bxC x))] 1]++X'):=hQ
  rw [hnxv s n hnl hs] at hQ'
  with_reducible exact @cut_yield rf hrf w hO.t hbl j _ (by simp only [go_sem]) s.1 s.2.1 s.2.2 n x hx hs 3 nn hn2 Q hQ'
 ·intro v
  change rfEnd _ _ _ v (hpCu w j rf _ false ((List.range w.bs.length).foldl (stS w.t nx) ⟨(w.bs.map cpX,mr),hI0⟩).1)
  rw [hfv _ _ (Nat.le_refl _)]
  rw [hcl]
  generalize (List.range w.bs.length).foldl (stS w.t (fgN w j)) (w.bs.map cpX,mr)=s at *
  obtain ⟨hf1,hf2⟩:=hfin
  have hl4:((s.1.map encX).map AV.t).length=w.bs.length:=by simp [hf1.1]
  simp only [hpCu,lpCu,List.cons_append,List.nil_append,nwA,bsRow]
  (repeat' first|simp only [il13c,go_sem,frz_mapA,hl3,hl4,hf2]|(with_reducible first|apply wD|apply wT|(apply wM; intro)|(apply wL; intro))|((with_reducible first|refine wA ?_ ?_|refine wE ?_); rfl))
end
end Go.Proofs.Ytbibdnlbpjnieaa
namespace Go.Proofs.Ytbibdnlbpjnieaa
open Go Go.Abs
theorem trunks_fresh (f:Fl) (w:Nw) (n:Nat) (h:okT w.t=true) (hn:(n:Int) < w.t.nodes) (dd nn:Nat) (hnn:200 < nn) (Q:AV→Heap→Prop)
  (hQ:Q (.tup [.ms 10 (trunkL w.t n).length 0 (trunkL w.t n).length 1 false,.ms 11 (trunkL w.t n).length 0 (trunkL w.t n).length 1 false]) [.gone,.gone,.gone,.gone,.gone,.gone,.gone,.gone,.gone,.gone,rowG 1 I ((trunkL w.t n).map ofN),rowG 1 I (costL w.t n)]) :
  oB (inl Try.prog pol (ans Try.prog pol) nn (dd+1) (.fn 34) [.t (nwT f w),.t (I (n:Nat))] (List.replicate 10 .gone)) Q:=by
 obtain ⟨z1,z2,z3⟩:=okT_size h
 have k1:=nports_ans f w n h hn
 have hpl:=ports_len w.t n
 have hplt:=fun p=>@ports_lt w.t n p
 simp only [costL,trunkL] at hQ ⊢
 generalize portsL w.t n=L at *
 have hLl:(L.map ofN).length=L.length:=by simp
 with_reducible refine oB_inl il34_eq ?_ ?_
 ·exact Nat.le_of_ble_eq_true rfl
 simp only [List.replicate_succ,List.replicate_zero]
 (repeat' first|simp only [il34c,go_sem,k1,hLl]|(with_reducible first|apply wD|apply wT|(apply wM; intro)|(apply wL; intro))|((with_reducible first|refine wA ?_ ?_|refine wE ?_); rfl))
 refine loop_range L (fun p=>I (ofN p)) (step:=fun _ p (o:List Nat)=>.go (if innP w.t p=true then o++[p] else o)) (fin:=id)
  (St:=fun i o e h=>(e 2=.t (.ip (nwC f w))∧e 4=.ms 10 o.length 0 o.length 1 false∧e 5=.ms 11 o.length 0 o.length 1 false∧e 10=.t (.sl false 1 ((L.map ofN).map I))∧e 11=.t (I (L.length:Nat))∧e 12=.t (I (i:Nat)))∧o.length≤i∧h=[.gone,.gone,.gone,.gone,.gone,.gone,.gone,.gone,.gone,.gone,rowG 1 I (o.map ofN),rowG 1 I (o.map (perP w.t))])
  (Ex:=fun o x e h=>(e 4=.ms 10 o.length 0 o.length 1 false∧e 5=.ms 11 o.length 0 o.length 1 false)∧x=.exit 0∧h=[.gone,.gone,.gone,.gone,.gone,.gone,.gone,.gone,.gone,.gone,rowG 1 I (o.map ofN),rowG 1 I (o.map (perP w.t))]) (s:=[]) (by omega) ?_ ?_ (by omega) ?_ ?_
 ·intro i p o e h Y R hm hi hx hget hlt hw ⟨hs,ho,hh⟩ hk
  subst hh
  simp only [ctlK_go] at hk
  have hp:=hplt p hm
  have hget':((L.map ofN).map I)[i]? = some (I (ofN p)):=by simp [hx]
  have k2:=other_ans f w p h hp
  obtain ⟨g1,q1⟩:=st_get w.t z2 (toP_node h hp)
  have hj:p / 2 < w.t.links.length:=by omega
  have g2:(w.t.links.map encK)[p / 2]? = some (encK (lnk w.t (p / 2))):=by simp [lnk,hj]
  have v2:IntKind.i64.wrap (Int.tdiv (p:Nat) 2)=((p / 2:Nat):Int):=by rw [tdiv2]; exact wrap_i64 (by omega) (by omega)
  have hroom:(o.length+1)*8≤roomB:=ap_room (by omega) (by omega)
  have hl1:(o.map ofN).length=o.length:=by simp
  have hl2:(o.map (perP w.t)).length=o.length:=by simp
  have is1:rowIs 1 o.length (some (rowG 1 I (o.map ofN))):=by have:=rowG_is (k:=1) (enc:=I) (l:=o.map ofN); rwa [hl1] at this
  have is2:rowIs 1 o.length (some (rowG 1 I (o.map (perP w.t)))):=by have:=rowG_is (k:=1) (enc:=I) (l:=o.map (perP w.t)); rwa [hl2] at this
  have pu1:AObj.row 1 (((o.map ofN).map I).map .t++[.t (I (ofN p))]) 0=rowG 1 I ((o++[p]).map ofN):=by simp [rowG]
  have pu2:AObj.row 1 (((o.map (perP w.t)).map I).map .t++[.t (I (lnk w.t (p / 2)).per)]) 0=rowG 1 I ((o++[p]).map (perP w.t)):=by simp [rowG,perP]
  have hinn:innP w.t p = !stA w.t (toP w.t p).toNat:=rfl
  rw [hinn] at hk
  generalize lnk w.t (p / 2)=l at *
  cases hst:stA w.t (toP w.t p).toNat with
  | true =>
   rw [hst] at g1 hk
   simp only [Bool.not_true,Bool.false_eq_true,if_false] at hk
   (repeat' first|simp only [il34l0_go,il34l0b,go_sem,hs,hget',hlt,hw,ofN,k2,q1,g1,frz_rowG]|(with_reducible first|apply wD|apply wT|(apply wM; intro)|(apply wL; intro))|((with_reducible first|refine wA ?_ ?_|refine wE ?_); rfl))
   all_goals (refine hk _ _ ⟨?_,by omega,rfl⟩; simp only [go_sem,hs,hw,ofN])
  | false =>
   rw [hst] at g1 hk
   simp only [Bool.not_false,if_true] at hk
   simp only [ofN] at pu1
   (repeat' first|simp only [il34l0_go,il34l0b,go_sem,hs,hget',hlt,hw,ofN,k2,q1,g1,g2,encK_cells,v2,hroom,is1,is2,rowG_es,rowG_mr,pu1,pu2,frz_rowG]|(with_reducible first|apply wD|apply wT|(apply wM; intro)|(apply wL; intro))|((with_reducible first|refine wA ?_ ?_|refine wE ?_); rfl))
   all_goals (refine hk _ _ ⟨?_,by simp; omega,?_⟩ <;> simp only [go_sem,hs,hw,ofN,List.length_append])
 ·intro o e h Y R hlt ⟨hs,ho,hh⟩ hk
  subst hh
  (repeat' first|simp only [il34l0_go,il34l0b,go_sem,hs,hlt]|(with_reducible first|apply wD|apply wT|(apply wM; intro)|(apply wL; intro))|((with_reducible first|refine wA ?_ ?_|refine wE ?_); rfl))
  all_goals (refine hk _ _ _ ⟨?_,rfl,rfl⟩; simp only [go_sem,hs,id])
 ·refine ⟨?_,by simp,rfl⟩
  simp only [go_sem,List.map_map]
 ·intro x e h ⟨h1,h2,h3⟩
  have hf:∀ (l:List Nat) (i:Nat) (o:List Nat),foldC (ρ:=List Nat) (fun _ p o=>Ctl.go (if innP w.t p=true then o++[p] else o)) id i l o=o++l.filter (innP w.t):=by
   intro l
   induction l with
   | nil=>intro i o; simp [foldC]
   | cons p l ih =>
    intro i o
    rw [foldC_go (s':=if innP w.t p=true then o++[p] else o) rfl,ih,List.filter_cons]
    by_cases q:innP w.t p=true
    ·simp [q]
    ·simp [q]
  rw [hf,List.nil_append] at h1 h3
  subst h2 h3
  generalize L.filter (innP w.t)=o at *
  have hl1:(o.map ofN).length=o.length:=by simp
  have hl2:(o.map (perP w.t)).length=o.length:=by simp
  have is1:rowIs 1 o.length (some (rowG 1 I (o.map ofN))):=by have:=rowG_is (k:=1) (enc:=I) (l:=o.map ofN); rwa [hl1] at this
  have is2:rowIs 1 o.length (some (rowG 1 I (o.map (perP w.t)))):=by have:=rowG_is (k:=1) (enc:=I) (l:=o.map (perP w.t)); rwa [hl2] at this
  (repeat' first|simp only [il34c,go_sem,h1,is1,is2,rowG_es,rowG_mr]|(with_reducible first|apply wD|apply wT|(apply wM; intro)|(apply wL; intro))|((with_reducible first|refine wA ?_ ?_|refine wE ?_); rfl))
  all_goals exact hQ
theorem filter_half (fr:Nat→Int) (n:Int):∀ L:Nat,(∀ i,i < L→(fr (2*i)=n→fr (2*i+1)≠n))→((List.range (2*L)).filter (fun p=>decide (fr p=n))).length≤L:=by
 intro L
 induction L with
 | zero=>intro _; simp
 | succ L ih =>
  intro hh
  have h1:=ih (fun i hi=>hh i (by omega))
  rw [show 2*(L+1)=(2*L+1)+1 by omega,List.range_succ,List.range_succ,List.filter_append,List.filter_append]
  simp only [List.length_append]
  have h2:=hh L (by omega)
  by_cases q:fr (2*L)=n
  ·have q2:=h2 q
   simp [q,q2]
   omega
  ·by_cases q2:fr (2*L+1)=n
   ·simp [q,q2]; omega
   ·simp [q,q2]; omega
end Go.Proofs.Ytbibdnlbpjnieaa
namespace Go.Proofs.Ytbibdnlbpjnieaa
open Go Go.Abs
theorem trunk_24 {t:Tpo} (h:okT t=true) (n:Int):(trunkL t n).length≤24:=by
 obtain ⟨z1,z2,z3⟩:=okT_size h
 refine Nat.le_trans (Nat.le_trans (List.length_filter_le _ _) (filter_half (frP t) n t.links.length fun i hi h1 h2=>?_)) z3
 have he:=(ends_at h hi).2.2
 have e1:2*i / 2=i:=by omega
 have e2:(2*i+1) / 2=i:=by omega
 have e3:2*i % 2=0:=by omega
 have e4:¬ (2*i+1) % 2=0:=by omega
 rw [frP,e1,if_pos e3] at h1
 rw [frP,e2,if_neg e4] at h2
 exact he (h1.trans h2.symm)
theorem trunk_sorted (t:Tpo) (n:Int):(trunkL t n).Pairwise (· < ·):=(List.Pairwise.filter _ (List.Pairwise.filter _ List.pairwise_lt_range))
theorem per_ok {t:Tpo} (h:okT t=true) {p:Nat} (hp:p < 2*t.links.length):1≤perP t p∧perP t p≤1000:=by
 simp only [okT,Bool.and_eq_true] at h
 have h1:=sound_lk h.2.1 (i:=p / 2) (by omega)
 simp only [lkOk,lk4,Bool.and_eq_true,decide_eq_true_eq] at h1
 exact h1.2.2.2.1
def newN (w:Nw) (n:Nat):Bx:=⟨false,true,true,true,newB (prA w n) (n:Nat) ((trunkL w.t n).map ofN) (costL w.t n)⟩
theorem newN_ok {w:Nw} (h:okT w.t=true) (hr:rankL w.t w.prios=true) {n:Nat} (hn:(n:Int) < w.t.nodes):VB w n (newN w n).b:=by
 obtain ⟨z1,z2,z3⟩:=okT_size h
 refine ⟨?_,rfl,rfl,rfl,rfl⟩
 have hl:=trunk_24 h (n:Nat)
 have hpr:0≤prA w n∧prA w n≤15:=by
  have hpl:=rankL_len hr
  simp only [rankL,Bool.and_eq_true,List.all_eq_true,decide_eq_true_eq] at hr
  have hlt:n < w.prios.length:=by omega
  have:=hr.2 w.prios[n] (List.getElem_mem hlt)
  simpa [prA,hlt] using this
 have hL:okL (newB (prA w n) (n:Nat) ((trunkL w.t n).map ofN) (costL w.t n)):=⟨by simpa [newB] using hl,by simp [newB,costL],by simp [newB]⟩
 have hB:bidP (prA w n) (n:Nat):=⟨hpr,by omega,by omega⟩
 rw [okB,Bool.and_eq_true,Bool.and_eq_true]
 refine ⟨⟨decide_eq_true hL,decide_eq_true hB⟩,?_⟩
 simp only [newN,newB,List.all_eq_true,List.mem_range]
 intro i hi
 simp only [List.length_map] at hi
 obtain ⟨p,hp⟩:∃ p,(trunkL w.t n)[i]? = some p:=⟨(trunkL w.t n)[i]'hi,by simp [hi]⟩
 have hpt:=List.mem_of_getElem? hp
 have hplt:=trunk_lt hpt
 have hc:=per_ok h hplt
 simp only [okAt,decide_eq_true_eq,prt,cst,hrd,List.getElem?_map,costL,hp,Option.map_some,Option.getD_some,ofN]
 refine ⟨by omega,?_,hc,?_⟩
 ·intro hi0
  obtain ⟨q,hq⟩:∃ q,(trunkL w.t n)[i - 1]? = some q:=⟨(trunkL w.t n)[i - 1]'(by omega),by simp [show i - 1 < (trunkL w.t n).length by omega]⟩
  simp only [hq,Option.map_some,Option.getD_some,ofN]
  have hs:=List.pairwise_iff_getElem.1 (trunk_sorted w.t n) (i - 1) i (by omega) hi (by omega)
  rw [List.getElem?_eq_some_iff] at hp hq
  obtain ⟨_,rfl⟩:=hp
  obtain ⟨_,rfl⟩:=hq
  omega
 ·rw [List.length_map]
  simp only [List.getElem?_replicate,hi,if_true,Option.getD_some]
  exact okH_no
end Go.Proofs.Ytbibdnlbpjnieaa
