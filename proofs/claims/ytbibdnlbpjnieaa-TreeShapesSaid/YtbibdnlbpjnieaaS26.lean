/- Part 26 of the proof of TreeShapes. -/
import Derived.Test.YtbibdnlbpjnieaaS25
set_option linter.all false
set_option maxRecDepth 100000
set_option maxHeartbeats 4000000
namespace Go.Proofs.Ytbibdnlbpjnieaa
open Go Go.Abs
theorem asL_ln (w:Nw) (r:Nat→Nat→Int):(asL w r).length=2*w.t.links.length:=by
 have h:∀ (l:List Nat) (s:List Int × Nat),asI w s→asI w (l.foldl (stS w.t (asN w r)) s):=by
  intro l
  induction l with
  | nil=>intro s h; exact h
  | cons n l ih =>
   intro s h
   refine ih _ ?_
   unfold stS
   split
   ·exact h
   ·exact asN_ok h
 exact (h _ _ ⟨by simp,Nat.zero_le _⟩).1
theorem gA_get {w:Nw} {p:Nat} (hp:p < 2*w.t.links.length):((asL w (goalW w)).map I)[p]? = some (I (gA w p)):=by
 have hl:p < (asL w (goalW w)).length:=by rw [asL_ln]; exact hp
 rw [List.getElem?_map,gA,List.getElem?_eq_getElem hl]; rfl
theorem cut_len (w:Nw) (k:Nat):(shL w k).2.length≤k:=by
 rw [shL_cut]
 have:=List.length_filter_le (fun i=>!kpA w i) (List.range k)
 simpa using this
def allS (w:Nw) (s:List Nat) (i:Nat):List Nat:=if upA w i=false then s++[i] else s
def allL (w:Nw) (k:Nat):List Nat:=(List.range k).filter (fun i=>!upA w i)
theorem allL_succ (w:Nw) (k:Nat):allL w (k+1)=allS w (allL w k) k:=by
 rw [allL,List.range_succ,List.filter_append,allS,allL]
 by_cases hu:upA w k=false
 ·rw [if_pos hu]; simp [hu]
 ·rw [if_neg hu]; simp [hu]
theorem all_len (w:Nw) (k:Nat):(allL w k).length≤k:=by
 have:=List.length_filter_le (fun i=>!upA w i) (List.range k)
 simpa [allL] using this
section
variable (f:Fl) (w:Nw) (h:VN w) (N:Nat) (hN:(N:Int)=w.t.nodes)
include h hN
theorem shape_l0 (J:Inl) (nn:Nat) (hn:1000 < nn) (R:Xit→FEnv→Heap→Prop) (e:FEnv) (mr0:Nat) (hmr0:mr0≤N)
  (he:e 7=.ref 0 1 0 0∧e 9=.t (.sl true 1 ((asL w (goalW w)).map I))∧e 11=.ref 1 1 0 0∧e 12=.ms 2 N 0 N 1 true∧e 13=.ms 3 0 0 0 1 false∧e 82=.t (.sl f.lk 4 (w.t.links.map encK))∧e 83=.t (I (w.t.links.length:Nat))∧e 84=.t (I 0))
  (hR:∀ e mr,mr≤N→(e 7=.ref 0 1 0 0∧e 11=.ref 1 1 0 0∧e 12=.ms 2 N 0 N 1 true∧e 13=.ms 3 (shL w w.t.links.length).2.length 0 (shL w w.t.links.length).2.length 1 false) →
   R (.exit 0) e [.row 6 [.t (nwT f w)] 1,.row 3 [.t (tpT f.st f.lk w.t)] 1,.row 1 (((shL w w.t.links.length).1.map I).map .t) mr,rowG 1 NI (shL w w.t.links.length).2]) :
  wpIter 4 (some [7,9,11,12,13,82,83,84]) (wc Try.prog pol (ans Try.prog pol) J nn 6 il6l0) R nn e [.row 6 [.t (nwT f w)] 1,.row 3 [.t (tpT f.st f.lk w.t)] 1,.row 1 (((List.replicate N (0:Int)).map I).map .t) mr0,rowG 1 NI []]:=by
 obtain ⟨z1,z2,z3⟩:=okT_size h.t
 have hNt:w.t.nodes.toNat=N:=by omega
 refine loop_range w.t.links encK (step:=fun i x (s:List Int × List Nat)=>.go (shS w s i)) (fin:=id)
  (St:=fun i s e hh=>(e 7=.ref 0 1 0 0∧e 9=.t (.sl true 1 ((asL w (goalW w)).map I))∧e 11=.ref 1 1 0 0∧e 12=.ms 2 N 0 N 1 true∧e 13=.ms 3 s.2.length 0 s.2.length 1 false∧e 82=.t (.sl f.lk 4 (w.t.links.map encK))∧e 83=.t (I (w.t.links.length:Nat))∧e 84=.t (I (i:Nat)))∧s=shL w i∧∃ mr,mr≤N∧hh=[.row 6 [.t (nwT f w)] 1,.row 3 [.t (tpT f.st f.lk w.t)] 1,.row 1 ((s.1.map I).map .t) mr,rowG 1 NI s.2])
  (Ex:=fun s x e hh=>(e 7=.ref 0 1 0 0∧e 11=.ref 1 1 0 0∧e 12=.ms 2 N 0 N 1 true∧e 13=.ms 3 s.2.length 0 s.2.length 1 false)∧x=.exit 0∧s=shL w w.t.links.length∧∃ mr,mr≤N∧hh=[.row 6 [.t (nwT f w)] 1,.row 3 [.t (tpT f.st f.lk w.t)] 1,.row 1 ((s.1.map I).map .t) mr,rowG 1 NI s.2]) (s:=(List.replicate N 0,[])) (by omega) ?_ ?_ (by omega) ⟨he,by rw [shL,hNt]; rfl,mr0,hmr0,rfl⟩ ?_
 ·intro i x s e hh Y R' hm hi hx hget hlt hw ⟨hs,hsh,mr,hmr,hhe⟩ hk
  subst hhe
  simp only [ctlK_go] at hk
  have hlx:lnk w.t i=x:=by simp [lnk,hx]
  have he:=ends_at h.t hi
  rw [hlx] at he
  obtain ⟨⟨ha1,ha2⟩,⟨hb1,hb2⟩,hab⟩:=he
  have gd:(w.down.map B)[i]? = some (B (dnA w i)):=by simp [dnA,show i < w.down.length by rw [h.dl]; omega]
  obtain ⟨ga,qa⟩:=st_get w.t z2 (show nodeP w.t x.a from ⟨ha1,ha2⟩)
  obtain ⟨gb,qb⟩:=st_get w.t z2 (show nodeP w.t x.b from ⟨hb1,hb2⟩)
  have hcell:(lkT x).cells=[I x.a,I x.b,I x.per,I x.delay]:=rfl
  have hge:(w.t.links.map encK)[i]? = some (lkT x):=by simp [hx,encK]
  have g0:=gA_get (w:=w) (p:=2*i) (by omega)
  have g1:=gA_get (w:=w) (p:=2*i+1) (by omega)
  have v1:IntKind.i64.wrap (2*((i:Nat):Int))=((2*i:Nat):Int):=by rw [wrap_i64 (by omega) (by omega)]; omega
  have v2:IntKind.i64.wrap (((2*i:Nat):Int)+1)=((2*i+1:Nat):Int):=by rw [wrap_i64 (by omega) (by omega)]; omega
  have hsucc:=shL_succ (w:=w) i
  rw [← hsh] at hsucc
  have hcl:=cut_len w i
  have hrl:=shL_len (w:=w) i
  have hra:=shL_roots h i (by omega) x.a.toNat (by omega)
  have hrb:=shL_roots h i (by omega) x.b.toNat (by omega)
  rw [← hsh] at hcl hrl hra hrb
  obtain ⟨R0,C0⟩:=s
  dsimp only at hs hcl hrl hra hrb hsucc
  have hrl:R0.length=N:=by rw [hrl,hNt]
  have hroom:(C0.length+1)*8≤roomB:=ap_room (by omega) (by omega)
  have hba:0≤iA R0 x.a∧iA R0 x.a≤1:=by rw [iA,hra,Option.getD_some]; split <;> omega
  have hbb:0≤iA R0 x.b∧iA R0 x.b≤1:=by rw [iA,hrb,Option.getD_some]; split <;> omega
  have qa3:x.a.toNat < N:=by omega
  have qb3:x.b.toNat < N:=by omega
  have ra:=iA_get (m:=R0) (n:=x.a) (by omega)
  have rb:=iA_get (m:=R0) (n:=x.b) (by omega)
  have wa:IntKind.i64.wrap (iA R0 x.a+1)=iA R0 x.a+1:=wrap_i64 (by omega) (by omega)
  have wb:IntKind.i64.wrap (iA R0 x.b+1)=iA R0 x.b+1:=wrap_i64 (by omega) (by omega)
  have sa:=map_set (enc:=I) (l:=R0) (i:=x.a.toNat) (x:=iA R0 x.a+1)
  have sb:=map_set (enc:=I) (l:=R0) (i:=x.b.toNat) (x:=iA R0 x.b+1)
  have ia:incA R0 x.a.toNat=R0.set x.a.toNat (iA R0 x.a+1):=rfl
  have ib:incA R0 x.b.toNat=R0.set x.b.toNat (iA R0 x.b+1):=rfl
  have hup:upA w i=(!dnA w i && (!stA w.t x.a.toNat && !stA w.t x.b.toNat)):=by rw [upA,hlx]
  have hone:=gA_one h hi
  rw [shS,hlx,ia,ib] at hk hsucc
  dsimp only at hk hsucc
  clear hra hrb hba hbb hsh ia ib hm hx hlx ha1 ha2 hb1 hb2 hab hcl
  generalize iA R0 x.a=va at *
  generalize iA R0 x.b=vb at *
  generalize R0.set x.a.toNat (va+1)=Ra at *
  generalize R0.set x.b.toNat (vb+1)=Rb at *
  generalize gA w (2*i)=y0 at *
  generalize gA w (2*i+1)=y1 at *
  generalize hGG:(asL w (goalW w)).map I=GG at *
  generalize shL w (i+1)=S1 at *
  cases hd:dnA w i with
  | true =>
   rw [hd] at gd hup
   rw [if_pos (by rw [hup]; rfl)] at hk hsucc
   (repeat' first|simp only [il6l0_go,il6l0b,go_sem,hs,hge,hlt,hw,v1,v2,g0,g1,gd,hcell,hroom,hmr,rowG_is,rowG_es,rowG_mr,frz_rowG']|(with_reducible first|apply wD|apply wT|(apply wM; intro)|(apply wL; intro))|((with_reducible first|refine wA ?_ ?_|refine wE ?_); rfl))
   all_goals (refine hk _ _ ⟨?_,hsucc.symm,mr,hmr,?_⟩ <;> first|(simp only [go_sem,hs,hw,List.length_append]; done)|simp [rowG])
  | false =>
   rw [hd] at gd hup
   cases hsa:stA w.t x.a.toNat with
   | true =>
    rw [hsa] at ga hup
    rw [if_pos (by rw [hup]; rfl)] at hk hsucc
    (repeat' first|simp only [il6l0_go,il6l0b,go_sem,hs,hge,hlt,hw,v1,v2,g0,g1,gd,ga,qa,hcell,hroom,hmr,rowG_is,rowG_es,rowG_mr,frz_rowG']|(with_reducible first|apply wD|apply wT|(apply wM; intro)|(apply wL; intro))|((with_reducible first|refine wA ?_ ?_|refine wE ?_); rfl))
    all_goals (refine hk _ _ ⟨?_,hsucc.symm,mr,hmr,?_⟩ <;> first|(simp only [go_sem,hs,hw,List.length_append]; done)|simp [rowG])
   | false =>
    rw [hsa] at ga hup
    cases hsb:stA w.t x.b.toNat with
    | true =>
     rw [hsb] at gb hup
     rw [if_pos (by rw [hup]; rfl)] at hk hsucc
     (repeat' first|simp only [il6l0_go,il6l0b,go_sem,hs,hge,hlt,hw,v1,v2,g0,g1,gd,ga,qa,gb,qb,hcell,hroom,hmr,rowG_is,rowG_es,rowG_mr,frz_rowG']|(with_reducible first|apply wD|apply wT|(apply wM; intro)|(apply wL; intro))|((with_reducible first|refine wA ?_ ?_|refine wE ?_); rfl))
     all_goals (refine hk _ _ ⟨?_,hsucc.symm,mr,hmr,?_⟩ <;> first|(simp only [go_sem,hs,hw,List.length_append]; done)|simp [rowG])
    | false =>
     rw [hsb] at gb hup
     have hu:upA w i=true:=by rw [hup]; rfl
     rw [if_neg (by rw [hu]; simp)] at hk hsucc
     rcases hone hu with ⟨rfl,rfl|rfl⟩|⟨rfl,rfl|rfl⟩
     ·rw [if_neg (by omega),if_pos rfl] at hk hsucc
      (repeat' first|simp only [il6l0_go,il6l0b,go_sem,hs,hge,hlt,hw,v1,v2,g0,g1,gd,ga,qa,gb,qb,hcell,hroom,hmr,hrl,qb3,rb,wb,sb,frz_rowG']|(with_reducible first|apply wD|apply wT|(apply wM; intro)|(apply wL; intro))|((with_reducible first|refine wA ?_ ?_|refine wE ?_); rfl))
      all_goals (refine hk _ _ ⟨?_,hsucc.symm,N,Nat.le_refl _,?_⟩ <;> first|(simp only [go_sem,hs,hw]; done)|rfl)
     ·rw [if_neg (by omega),if_neg (by omega)] at hk hsucc
      (repeat' first|simp only [il6l0_go,il6l0b,go_sem,hs,hge,hlt,hw,v1,v2,g0,g1,gd,ga,qa,gb,qb,hcell,hroom,hmr,rowG_is,rowG_es,rowG_mr,frz_rowG']|(with_reducible first|apply wD|apply wT|(apply wM; intro)|(apply wL; intro))|((with_reducible first|refine wA ?_ ?_|refine wE ?_); rfl))
      all_goals (refine hk _ _ ⟨?_,hsucc.symm,mr,hmr,?_⟩ <;> first|(simp only [go_sem,hs,hw,List.length_append]; done)|simp [rowG])
     ·rw [if_pos rfl] at hk hsucc
      (repeat' first|simp only [il6l0_go,il6l0b,go_sem,hs,hge,hlt,hw,v1,v2,g0,g1,gd,ga,qa,gb,qb,hcell,hroom,hmr,hrl,qa3,ra,wa,sa,frz_rowG']|(with_reducible first|apply wD|apply wT|(apply wM; intro)|(apply wL; intro))|((with_reducible first|refine wA ?_ ?_|refine wE ?_); rfl))
      all_goals (refine hk _ _ ⟨?_,hsucc.symm,N,Nat.le_refl _,?_⟩ <;> first|(simp only [go_sem,hs,hw]; done)|rfl)
     ·rw [if_neg (by omega),if_neg (by omega)] at hk hsucc
      (repeat' first|simp only [il6l0_go,il6l0b,go_sem,hs,hge,hlt,hw,v1,v2,g0,g1,gd,ga,qa,gb,qb,hcell,hroom,hmr,rowG_is,rowG_es,rowG_mr,frz_rowG']|(with_reducible first|apply wD|apply wT|(apply wM; intro)|(apply wL; intro))|((with_reducible first|refine wA ?_ ?_|refine wE ?_); rfl))
      all_goals (refine hk _ _ ⟨?_,hsucc.symm,mr,hmr,?_⟩ <;> first|(simp only [go_sem,hs,hw,List.length_append]; done)|simp [rowG])
 ·intro s e hh Y R' hlt ⟨hs,hsh,mr,hmr,hhe⟩ hk
  subst hhe
  (repeat' first|simp only [il6l0_go,il6l0b,go_sem,hs,hlt]|(with_reducible first|apply wD|apply wT|(apply wM; intro)|(apply wL; intro))|((with_reducible first|refine wA ?_ ?_|refine wE ?_); rfl))
  all_goals (refine hk _ _ _ ⟨?_,rfl,hsh,mr,hmr,rfl⟩; simp only [go_sem,hs,id])
 ·intro x e hh ⟨h1,h2,h3,mr,hmr,h4⟩
  rw [h3] at h1 h4
  subst h2 h4
  exact hR _ mr hmr h1
theorem shape_l1 (X13:AV) (H3:AObj) (hX:∀ hh,frz hh (fromB 5) X13=some X13) (hH:∀ hh,frzObj hh (fromB 5) H3=some H3) (R0:List Int) (mr:Nat) (n:Nat) (J:Inl) (nn:Nat) (hn:1000 < nn) (R:Xit→FEnv→Heap→Prop) (e:FEnv)
  (he:e 7=.ref 0 1 0 0∧e 11=.ref 1 1 0 0∧e 12=.ms 2 N 0 N 1 true∧e 13=X13∧e 18=.t (I (n:Nat))∧e 19=.ms 4 0 0 0 1 false∧e 162=.t (I (N:Nat))∧e 163=.t (I (n:Nat))∧e 172=.t (.sl f.lk 4 (w.t.links.map encK))∧e 173=.t (I (w.t.links.length:Nat))∧e 174=.t (I 0))
  (hR:∀ e,(e 7=.ref 0 1 0 0∧e 11=.ref 1 1 0 0∧e 12=.ms 2 N 0 N 1 true∧e 13=X13∧e 18=.t (I (n:Nat))∧e 19=.ms 4 (allL w w.t.links.length).length 0 (allL w w.t.links.length).length 1 false∧e 162=.t (I (N:Nat))∧e 163=.t (I (n:Nat))) →
   R (.exit 4) e [.row 6 [.t (nwT f w)] 1,.row 3 [.t (tpT f.st f.lk w.t)] 1,.row 1 ((R0.map I).map .t) mr,H3,rowG 1 NI (allL w w.t.links.length)]) :
  wpIter 5 (some [7,11,12,13,18,19,162,163,172,173,174]) (wc Try.prog pol (ans Try.prog pol) J nn 6 il6l1) R nn e [.row 6 [.t (nwT f w)] 1,.row 3 [.t (tpT f.st f.lk w.t)] 1,.row 1 ((R0.map I).map .t) mr,H3,rowG 1 NI []]:=by
 obtain ⟨z1,z2,z3⟩:=okT_size h.t
 refine loop_range w.t.links encK (step:=fun i x (s:List Nat)=>.go (allS w s i)) (fin:=id)
  (St:=fun i s e hh=>(e 7=.ref 0 1 0 0∧e 11=.ref 1 1 0 0∧e 12=.ms 2 N 0 N 1 true∧e 13=X13∧e 18=.t (I (n:Nat))∧e 19=.ms 4 s.length 0 s.length 1 false∧e 162=.t (I (N:Nat))∧e 163=.t (I (n:Nat))∧e 172=.t (.sl f.lk 4 (w.t.links.map encK))∧e 173=.t (I (w.t.links.length:Nat))∧e 174=.t (I (i:Nat)))∧s=allL w i∧hh=[.row 6 [.t (nwT f w)] 1,.row 3 [.t (tpT f.st f.lk w.t)] 1,.row 1 ((R0.map I).map .t) mr,H3,rowG 1 NI s])
  (Ex:=fun s x e hh=>(e 7=.ref 0 1 0 0∧e 11=.ref 1 1 0 0∧e 12=.ms 2 N 0 N 1 true∧e 13=X13∧e 18=.t (I (n:Nat))∧e 19=.ms 4 s.length 0 s.length 1 false∧e 162=.t (I (N:Nat))∧e 163=.t (I (n:Nat)))∧x=.exit 4∧s=allL w w.t.links.length∧hh=[.row 6 [.t (nwT f w)] 1,.row 3 [.t (tpT f.st f.lk w.t)] 1,.row 1 ((R0.map I).map .t) mr,H3,rowG 1 NI s]) (s:=[]) (by omega) ?_ ?_ (by omega) ⟨he,rfl,rfl⟩ ?_
 ·intro i x s e hh Y R' hm hi hx hget hlt hw ⟨hs,hsh,hhe⟩ hk
  subst hhe
  simp only [ctlK_go] at hk
  have hlx:lnk w.t i=x:=by simp [lnk,hx]
  have he:=ends_at h.t hi
  rw [hlx] at he
  obtain ⟨⟨ha1,ha2⟩,⟨hb1,hb2⟩,hab⟩:=he
  have gd:(w.down.map B)[i]? = some (B (dnA w i)):=by simp [dnA,show i < w.down.length by rw [h.dl]; omega]
  obtain ⟨ga,qa⟩:=st_get w.t z2 (show nodeP w.t x.a from ⟨ha1,ha2⟩)
  obtain ⟨gb,qb⟩:=st_get w.t z2 (show nodeP w.t x.b from ⟨hb1,hb2⟩)
  have hcell:(lkT x).cells=[I x.a,I x.b,I x.per,I x.delay]:=rfl
  have hge:(w.t.links.map encK)[i]? = some (lkT x):=by simp [hx,encK]
  have hsucc:=allL_succ w i
  rw [← hsh] at hsucc
  have hcl:=all_len w i
  rw [← hsh] at hcl
  have hroom:(s.length+1)*8≤roomB:=ap_room (by omega) (by omega)
  have hup:upA w i=(!dnA w i && (!stA w.t x.a.toNat && !stA w.t x.b.toNat)):=by rw [upA,hlx]
  rw [allS] at hk hsucc
  clear hsh hm hx hlx ha1 ha2 hb1 hb2 hab hcl
  generalize allL w (i+1)=S1 at *
  cases hd:dnA w i with
  | true =>
   rw [hd] at gd hup
   rw [if_pos (by rw [hup]; rfl)] at hk hsucc
   (repeat' first|simp only [il6l1_go,il6l1b,go_sem,hs,hge,hlt,hw,gd,hcell,hroom,hX,hH,rowG_is,rowG_es,rowG_mr,frz_rowG']|(with_reducible first|apply wD|apply wT|(apply wM; intro)|(apply wL; intro))|((with_reducible first|refine wA ?_ ?_|refine wE ?_); rfl))
   all_goals (refine hk _ _ ⟨?_,hsucc.symm,?_⟩ <;> first|(simp only [go_sem,hs,hw,hX,List.length_append]; done)|simp [rowG])
  | false =>
   rw [hd] at gd hup
   cases hsa:stA w.t x.a.toNat with
   | true =>
    rw [hsa] at ga hup
    rw [if_pos (by rw [hup]; rfl)] at hk hsucc
    (repeat' first|simp only [il6l1_go,il6l1b,go_sem,hs,hge,hlt,hw,gd,ga,qa,hcell,hroom,hX,hH,rowG_is,rowG_es,rowG_mr,frz_rowG']|(with_reducible first|apply wD|apply wT|(apply wM; intro)|(apply wL; intro))|((with_reducible first|refine wA ?_ ?_|refine wE ?_); rfl))
    all_goals (refine hk _ _ ⟨?_,hsucc.symm,?_⟩ <;> first|(simp only [go_sem,hs,hw,hX,List.length_append]; done)|simp [rowG])
   | false =>
    rw [hsa] at ga hup
    cases hsb:stA w.t x.b.toNat with
    | true =>
     rw [hsb] at gb hup
     rw [if_pos (by rw [hup]; rfl)] at hk hsucc
     (repeat' first|simp only [il6l1_go,il6l1b,go_sem,hs,hge,hlt,hw,gd,ga,qa,gb,qb,hcell,hroom,hX,hH,rowG_is,rowG_es,rowG_mr,frz_rowG']|(with_reducible first|apply wD|apply wT|(apply wM; intro)|(apply wL; intro))|((with_reducible first|refine wA ?_ ?_|refine wE ?_); rfl))
     all_goals (refine hk _ _ ⟨?_,hsucc.symm,?_⟩ <;> first|(simp only [go_sem,hs,hw,hX,List.length_append]; done)|simp [rowG])
    | false =>
     rw [hsb] at gb hup
     rw [if_neg (by rw [hup]; simp)] at hk hsucc
     (repeat' first|simp only [il6l1_go,il6l1b,go_sem,hs,hge,hlt,hw,gd,ga,qa,gb,qb,hcell,hroom,hX,hH,frz_rowG']|(with_reducible first|apply wD|apply wT|(apply wM; intro)|(apply wL; intro))|((with_reducible first|refine wA ?_ ?_|refine wE ?_); rfl))
     all_goals (refine hk _ _ ⟨?_,hsucc.symm,?_⟩ <;> first|(simp only [go_sem,hs,hw,hX]; done)|rfl)
 ·intro s e hh Y R' hlt ⟨hs,hsh,hhe⟩ hk
  subst hhe
  (repeat' first|simp only [il6l1_go,il6l1b,go_sem,hs,hlt]|(with_reducible first|apply wD|apply wT|(apply wM; intro)|(apply wL; intro))|((with_reducible first|refine wA ?_ ?_|refine wE ?_); rfl))
  all_goals (refine hk _ _ _ ⟨?_,rfl,hsh,rfl⟩; simp only [go_sem,hs,hX,id])
 ·intro x e hh ⟨h1,h2,h3,h4⟩
  rw [h3] at h1 h4
  subst h2 h4
  exact hR _ h1
end
end Go.Proofs.Ytbibdnlbpjnieaa
namespace Go.Proofs.Ytbibdnlbpjnieaa
open Go Go.Abs
theorem ptL_bd {R0:List Int} {P:List Bool} {N:Nat} (hR:∀ n,n < N→0≤R0[n]?.getD 0∧R0[n]?.getD 0≤1):∀ k,k≤N→(0≤(ptL R0 P k).1∧(ptL R0 P k).1≤(k:Nat))∧(0≤(ptL R0 P k).2∧(ptL R0 P k).2≤(k:Nat)):=by
 intro k
 induction k with
 | zero=>intro _; simp [ptL]
 | succ k ih =>
  intro hk
  have h1:=ih (by omega)
  have h2:=hR k (by omega)
  rw [ptL_succ,ptS]
  split
  ·dsimp only; omega
  ·omega
theorem shape_l2 (f:Fl) (w:Nw) (N:Nat) (hN12:N≤12) (R0:List Int) (hRl:R0.length=N) (hRb:∀ n,n < N→0≤R0[n]?.getD 0∧R0[n]?.getD 0≤1) (P:List Bool) (hP:P.length=N) (C0:List Nat) (mr:Nat) (hmr:mr≤N) (n:Nat) (J:Inl) (nn:Nat) (hn:1000 < nn) (R:Xit→FEnv→Heap→Prop) (e:FEnv)
  (he:e 7=.ref 0 1 0 0∧e 11=.ref 1 1 0 0∧e 12=.ms 2 N 0 N 1 true∧e 13=.t (.sl false 1 (C0.map NI))∧e 18=.t (I (n:Nat))∧e 26=.t (I 0)∧e 27=.t (I 0)∧e 162=.t (I (N:Nat))∧e 163=.t (I (n:Nat))∧e 238=.t (.sl true 1 (P.map B))∧e 239=.t (I (N:Nat))∧e 240=.t (I 0))
  (hR:∀ e,(e 7=.ref 0 1 0 0∧e 11=.ref 1 1 0 0∧e 12=.ms 2 N 0 N 1 true∧e 13=.t (.sl false 1 (C0.map NI))∧e 18=.t (I (n:Nat))∧e 26=.t (I (ptL R0 P N).1)∧e 27=.t (I (ptL R0 P N).2)∧e 162=.t (I (N:Nat))∧e 163=.t (I (n:Nat))) →
   R (.exit 6) e [.row 6 [.t (nwT f w)] 1,.row 3 [.t (tpT f.st f.lk w.t)] 1,.row 1 ((R0.map I).map .t) mr,.gone,.gone]) :
  wpIter 5 (some [7,11,12,13,18,26,27,162,163,238,239,240]) (wc Try.prog pol (ans Try.prog pol) J nn 6 il6l2) R nn e [.row 6 [.t (nwT f w)] 1,.row 3 [.t (tpT f.st f.lk w.t)] 1,.row 1 ((R0.map I).map .t) mr,.gone,.gone]:=by
 refine loop_range P B (step:=fun i x (s:Int × Int)=>.go (ptS R0 P s i)) (fin:=id)
  (St:=fun i s e hh=>(e 7=.ref 0 1 0 0∧e 11=.ref 1 1 0 0∧e 12=.ms 2 N 0 N 1 true∧e 13=.t (.sl false 1 (C0.map NI))∧e 18=.t (I (n:Nat))∧e 26=.t (I s.1)∧e 27=.t (I s.2)∧e 162=.t (I (N:Nat))∧e 163=.t (I (n:Nat))∧e 238=.t (.sl true 1 (P.map B))∧e 239=.t (I (P.length:Nat))∧e 240=.t (I (i:Nat)))∧s=ptL R0 P i∧hh=[.row 6 [.t (nwT f w)] 1,.row 3 [.t (tpT f.st f.lk w.t)] 1,.row 1 ((R0.map I).map .t) mr,.gone,.gone])
  (Ex:=fun s x e hh=>(e 7=.ref 0 1 0 0∧e 11=.ref 1 1 0 0∧e 12=.ms 2 N 0 N 1 true∧e 13=.t (.sl false 1 (C0.map NI))∧e 18=.t (I (n:Nat))∧e 26=.t (I s.1)∧e 27=.t (I s.2)∧e 162=.t (I (N:Nat))∧e 163=.t (I (n:Nat)))∧x=.exit 6∧s=ptL R0 P P.length∧hh=[.row 6 [.t (nwT f w)] 1,.row 3 [.t (tpT f.st f.lk w.t)] 1,.row 1 ((R0.map I).map .t) mr,.gone,.gone]) (s:=(0,0)) (by omega) ?_ ?_ (by omega) ⟨by rw [hP]; exact he,rfl,rfl⟩ ?_
 ·intro i x s e hh Y R' hm hi hx hget hlt hw ⟨hs,hsh,hhe⟩ hk
  subst hhe
  simp only [ctlK_go] at hk
  have hsucc:=ptL_succ R0 P i
  have hbd:=ptL_bd (P:=P) hRb i (by omega)
  rw [← hsh] at hsucc hbd
  have hri:=hRb i (by omega)
  have hPx:P[i]?.getD false=x:=by rw [hx]; rfl
  have gr:((R0.map I).map AV.t)[i]? = some (.t (I (R0[i]?.getD 0))):=map_get (enc:=I) (by rw [List.getElem?_eq_getElem (by omega)]; rfl)
  rw [ptS,hPx] at hk hsucc
  obtain ⟨a,b⟩:=s
  dsimp only at hs hbd hk hsucc
  have qi:i < N:=by omega
  have w1:IntKind.i64.wrap (a+1)=a+1:=wrap_i64 (by omega) (by omega)
  have w2:IntKind.i64.wrap (b+R0[i]?.getD 0)=b+R0[i]?.getD 0:=wrap_i64 (by omega) (by omega)
  clear hbd hri hPx hsh hm hx
  generalize R0[i]?.getD 0=rr at *
  generalize ptL R0 P (i+1)=S1 at *
  cases x with
  | true =>
   rw [if_pos rfl] at hk hsucc
   (repeat' first|simp only [il6l2_go,il6l2b,go_sem,hs,hget,hlt,hw,w1,w2,gr,qi,hmr,hRl]|(with_reducible first|apply wD|apply wT|(apply wM; intro)|(apply wL; intro))|((with_reducible first|refine wA ?_ ?_|refine wE ?_); rfl))
   all_goals (refine hk _ _ ⟨?_,hsucc.symm,rfl⟩; simp only [go_sem,hs,hw])
  | false =>
   rw [if_neg (by simp)] at hk hsucc
   (repeat' first|simp only [il6l2_go,il6l2b,go_sem,hs,hget,hlt,hw,w1,w2,gr,qi,hmr,hRl]|(with_reducible first|apply wD|apply wT|(apply wM; intro)|(apply wL; intro))|((with_reducible first|refine wA ?_ ?_|refine wE ?_); rfl))
   all_goals (refine hk _ _ ⟨?_,hsucc.symm,rfl⟩; simp only [go_sem,hs,hw])
 ·intro s e hh Y R' hlt ⟨hs,hsh,hhe⟩ hk
  subst hhe
  (repeat' first|simp only [il6l2_go,il6l2b,go_sem,hs,hlt]|(with_reducible first|apply wD|apply wT|(apply wM; intro)|(apply wL; intro))|((with_reducible first|refine wA ?_ ?_|refine wE ?_); rfl))
  all_goals (refine hk _ _ _ ⟨?_,rfl,hsh,rfl⟩; simp only [go_sem,hs,id])
 ·intro x e hh ⟨h1,h2,h3,h4⟩
  rw [h3,hP] at h1
  subst h2 h4
  exact hR _ h1
section
variable (f:Fl) (w:Nw) (h:VN w) (N:Nat) (hN:(N:Int)=w.t.nodes)
include h hN
theorem shape_l3 (dd nn:Nat) (hn:1000 < nn) (R:Xit→FEnv→Heap→Prop) (e:FEnv) (mr0:Nat) (hmr0:mr0≤N)
  (he:e 7=.ref 0 1 0 0∧e 11=.ref 1 1 0 0∧e 12=.ms 2 N 0 N 1 true∧e 13=.ms 3 (shL w w.t.links.length).2.length 0 (shL w w.t.links.length).2.length 1 false∧e 162=.t (I w.t.nodes)∧e 163=.t (I 0))
  (hR:∀ e hh,R (.exit 2) e hh) :
  wpIter 4 (some [7,11,12,13,162,163]) (wc Try.prog pol (ans Try.prog pol) (inl Try.prog pol (ans Try.prog pol) nn dd) nn 6 il6l3) R nn e [.row 6 [.t (nwT f w)] 1,.row 3 [.t (tpT f.st f.lk w.t)] 1,.row 1 (((shL w w.t.links.length).1.map I).map .t) mr0,rowG 1 NI (shL w w.t.links.length).2]:=by
 obtain ⟨z1,z2,z3⟩:=okT_size h.t
 have hNt:w.t.nodes.toNat=N:=by omega
 refine loop_upto N (step:=fun i (s:Unit)=>.go ()) (fin:=id)
  (St:=fun i _ e hh=>(e 7=.ref 0 1 0 0∧e 11=.ref 1 1 0 0∧e 12=.ms 2 N 0 N 1 true∧e 162=.t (I w.t.nodes)∧e 163=.t (I (i:Nat)))∧∃ mr,mr≤N ∧
   ((e 13=.ms 3 (shL w w.t.links.length).2.length 0 (shL w w.t.links.length).2.length 1 false∧hh=[.row 6 [.t (nwT f w)] 1,.row 3 [.t (tpT f.st f.lk w.t)] 1,.row 1 (((shL w w.t.links.length).1.map I).map .t) mr,rowG 1 NI (shL w w.t.links.length).2])
    ∨ (e 13=.t (.sl false 1 ((shL w w.t.links.length).2.map NI))∧hh=[.row 6 [.t (nwT f w)] 1,.row 3 [.t (tpT f.st f.lk w.t)] 1,.row 1 (((shL w w.t.links.length).1.map I).map .t) mr,.gone])))
  (Ex:=fun _ x e hh=>x=.exit 2) (s:=()) (by omega) ?_ ?_ (by omega) ⟨⟨he.1,he.2.1,he.2.2.1,he.2.2.2.2.1,he.2.2.2.2.2⟩,mr0,hmr0,.inl ⟨he.2.2.2.1,rfl⟩⟩ ?_
 ·intro i _ e hh Y R' hi hlt hw ⟨hs,mr,hmr,hform⟩ hk
  simp only [ctlK_go] at hk
  rw [← hN] at hs hk
  have gs:(w.t.station.map B)[i]? = some (B (stA w.t i)):=by simp [stA,show i < w.t.station.length by omega]
  have hiN:i < w.t.nodes.toNat:=by omega
  have hcl:=cut_len w w.t.links.length
  have hal:=all_len w w.t.links.length
  have kA:=Reach_ans f.st f.lk false w.t h.t i hiN (allL w w.t.links.length) (fun j hj=>by rw [allL,List.mem_filter] at hj; exact List.mem_range.1 hj.1) (by omega)
  have kB:=Reach_ans f.st f.lk false w.t h.t i hiN (shL w w.t.links.length).2 (fun j hj=>by rw [shL_cut,List.mem_filter] at hj; exact List.mem_range.1 hj.1) (by omega)
  rw [reach_eq h (fun j hj hc=>by simpa [allL,hj] using hc) (fun j hj hc=>by simp [allL,hj,(by simpa [kpA] using hc:upA w j=true∧_).1]) hiN] at kA
  rw [reach_eq h (fun j hj hc=>by have:kpA w j=true:=by simpa [shL_cut,hj] using hc
                                  exact (by simpa [kpA] using this:upA w j=true∧_).1) (fun j hj hc=>by simp [shL_cut,hj,hc]) hiN] at kB
  have hpt:=pt_spec h hiN N (by omega)
  dsimp only at hpt
  rw [if_pos (by have:=(root_root h hiN).1; omega)] at hpt
  have hRb:∀ n,n < N→0≤(shL w w.t.links.length).1[n]?.getD 0∧(shL w w.t.links.length).1[n]?.getD 0≤1:=fun n hnN=>by
   rw [shL_root h (by omega),Option.getD_some]; split <;> omega
  have hRl:(shL w w.t.links.length).1.length=N:=by rw [shL_len,hNt]
  rw [hNt] at kA kB hpt
  generalize hPP:(List.range N).map (fun m=>decide (rootF w m=rootF w i))=P at *
  have hPl:P.length=N:=by rw [← hPP]; simp
  have kE:=equalB_ans true true P P (by omega)
  rw [decide_eq_true rfl] at kE
  have hNd:decide ((N:Int)=w.t.nodes)=true:=decide_eq_true hN
  have hnG1:namesObj (some (rowG 1 NI (shL w w.t.links.length).2))=[]:=by rw [rowG_eq,nm_row,nm_map]
  have hnG2:namesObj (some (rowG 1 NI (allL w w.t.links.length)))=[]:=by rw [rowG_eq,nm_row,nm_map]
  generalize hC0:(shL w w.t.links.length).2=C0 at *
  generalize hR0:(shL w w.t.links.length).1=R0 at *
  generalize hA0:allL w w.t.links.length=A0 at *
  have gn:((R0.map I).map AV.t)[i]? = some (.t (I (R0[i]?.getD 0))):=map_get (enc:=I) (by rw [List.getElem?_eq_getElem (by omega)]; rfl)
  have hd1:decide ((1:Int) < R0[i]?.getD 0)=false:=decide_eq_false (by have:=hRb i hi; omega)
  have hw1:IntKind.i64.wrap ((ptL R0 P N).1 - 1)=(ptL R0 P N).2:=by rw [hpt.1]; exact wrap_i64 (by omega) (by omega)
  clear hpt
  have fz3:∀ (hx:Heap) (p:Nat→Bool),p 3=true→hx[3]? = some (rowG 1 NI C0)→frz hx p (.ms 3 C0.length 0 C0.length 1 false)=some (.t (.sl false 1 (C0.map NI))):=fun hx p hp' hg'=>frz_msr (l:=C0) hp' hg' (Nat.zero_le _) rfl
  have fz4:∀ (hx:Heap) (p:Nat→Bool),p 4=true→hx[4]? = some (rowG 1 NI A0)→frz hx p (.ms 4 A0.length 0 A0.length 1 false)=some (.t (.sl false 1 (A0.map NI))):=fun hx p hp' hg'=>frz_msr (l:=A0) hp' hg' (Nat.zero_le _) rfl
  cases hst:stA w.t i with
  | true =>
   rw [hst] at gs
   rcases hform with ⟨h13,rfl⟩|⟨h13,rfl⟩
   ·(repeat' first|simp only [il6l3_go,il6l3b,go_sem,hs,h13,hlt,hw,gs,frz_rowG']|(with_reducible first|apply wD|apply wT|(apply wM; intro)|(apply wL; intro))|((with_reducible first|refine wA ?_ ?_|refine wE ?_); rfl))
    all_goals (refine hk _ _ ⟨?_,mr,hmr,.inl ⟨?_,rfl⟩⟩ <;> simp only [go_sem,hs,h13,hw])
   ·(repeat' first|simp only [il6l3_go,il6l3b,go_sem,hs,h13,hlt,hw,gs,frz_rowG']|(with_reducible first|apply wD|apply wT|(apply wM; intro)|(apply wL; intro))|((with_reducible first|refine wA ?_ ?_|refine wE ?_); rfl))
    all_goals (refine hk _ _ ⟨?_,mr,hmr,.inr ⟨?_,rfl⟩⟩ <;> simp only [go_sem,hs,h13,hw])
  | false =>
   rw [hst] at gs
   rcases hform with ⟨h13,rfl⟩|⟨h13,rfl⟩
   ·(repeat' first|simp only [il6l3_go,il6l3b,go_sem,hs,h13,hlt,hw,gs,frz_rowG']|(with_reducible first|apply wD|apply wT|(apply wM; intro)|(apply wL; intro))|((with_reducible first|refine wA ?_ ?_|refine wE ?_); rfl))
    refine shape_l1 f w h N hN (.ms 3 C0.length 0 C0.length 1 false) (rowG 1 NI C0) (fun hx=>frz_ms rfl) (fun hx=>frz_rowG') R0 mr i _ nn hn _ _ (by simp only [go_sem,hs,h13]) ?_
    rw [hA0]
    intro e1 he1
    (repeat' first|simp only [il6l3_go,il6l3b,go_sem,he1,fz3,fz4,hnG1,hnG2,kA,kB,kE,hNd,hPl,rowG_is,rowG_es,rowG_mr,frz_rowG']|(with_reducible first|apply wD|apply wT|(apply wM; intro)|(apply wL; intro))|((with_reducible first|refine wA ?_ ?_|refine wE ?_); rfl))
    refine shape_l2 f w N (by omega) R0 hRl hRb P hPl C0 mr hmr i _ nn hn _ _ (by simp only [go_sem,he1,hPl]) ?_
    generalize ptL R0 P N=s2 at *
    generalize R0[i]?.getD 0=ri at *
    intro e2 he2
    (repeat' first|simp only [il6l3_go,il6l3b,go_sem,he2,gn,hd1,hw1,hi,hmr,hRl,hw,frz_rowG']|(with_reducible first|apply wD|apply wT|(apply wM; intro)|(apply wL; intro))|((with_reducible first|refine wA ?_ ?_|refine wE ?_); rfl))
    all_goals (refine hk _ _ ⟨?_,mr,hmr,.inr ⟨?_,rfl⟩⟩ <;> simp only [go_sem,he2,hw])
   ·(repeat' first|simp only [il6l3_go,il6l3b,go_sem,hs,h13,hlt,hw,gs,frz_rowG']|(with_reducible first|apply wD|apply wT|(apply wM; intro)|(apply wL; intro))|((with_reducible first|refine wA ?_ ?_|refine wE ?_); rfl))
    refine shape_l1 f w h N hN (.t (.sl false 1 (C0.map NI))) .gone (fun hx=>frz_t) (fun hx=>frzObj_gone) R0 mr i _ nn hn _ _ (by simp only [go_sem,hs,h13]) ?_
    rw [hA0]
    intro e1 he1
    (repeat' first|simp only [il6l3_go,il6l3b,go_sem,he1,fz4,hnG2,kA,kB,kE,hNd,hPl,rowG_is,rowG_es,rowG_mr,frz_rowG']|(with_reducible first|apply wD|apply wT|(apply wM; intro)|(apply wL; intro))|((with_reducible first|refine wA ?_ ?_|refine wE ?_); rfl))
    refine shape_l2 f w N (by omega) R0 hRl hRb P hPl C0 mr hmr i _ nn hn _ _ (by simp only [go_sem,he1,hPl]) ?_
    generalize ptL R0 P N=s2 at *
    generalize R0[i]?.getD 0=ri at *
    intro e2 he2
    (repeat' first|simp only [il6l3_go,il6l3b,go_sem,he2,gn,hd1,hw1,hi,hmr,hRl,hw,frz_rowG']|(with_reducible first|apply wD|apply wT|(apply wM; intro)|(apply wL; intro))|((with_reducible first|refine wA ?_ ?_|refine wE ?_); rfl))
    all_goals (refine hk _ _ ⟨?_,mr,hmr,.inr ⟨?_,rfl⟩⟩ <;> simp only [go_sem,he2,hw])
 ·intro _ e hh Y R' hlt ⟨hs,mr,hmr,hform⟩ hk
  rw [← hN] at hs
  rcases hform with ⟨h13,rfl⟩|⟨h13,rfl⟩
  ·(repeat' first|simp only [il6l3_go,il6l3b,go_sem,hs,hlt]|(with_reducible first|apply wD|apply wT|(apply wM; intro)|(apply wL; intro))|((with_reducible first|refine wA ?_ ?_|refine wE ?_); rfl))
   all_goals exact hk _ _ _ rfl
  ·(repeat' first|simp only [il6l3_go,il6l3b,go_sem,hs,hlt]|(with_reducible first|apply wD|apply wT|(apply wM; intro)|(apply wL; intro))|((with_reducible first|refine wA ?_ ?_|refine wE ?_); rfl))
   all_goals exact hk _ _ _ rfl
 ·intro x e hh hx
  rw [hx]
  exact hR _ _
end
end Go.Proofs.Ytbibdnlbpjnieaa
namespace Go.Proofs.Ytbibdnlbpjnieaa
open Go Go.Abs
section
variable (d:Dr)
def brN:Nat:=(1+d.br % 6).toNat
def stN:Nat:=(2+d.st % 5).toNat
def dSt:List Bool:=(List.range (brN d+stN d)).map (fun n=>decide (brN d≤n))
def wD (L:List Lk) (a b:Int):List Lk:=wth d ((brN d+stN d:Nat):Int) (dSt d) L a b
def dL1:List Lk:=(List.range (brN d - 1)).foldl (fun L i=>wD d L (i:Nat) ((i+1:Nat):Int)) []
def dL2:List Lk:=(List.range (stN d)).foldl (fun L s=>wD d L ((brN d+s:Nat):Int) (pkL d.homes (2*s) % (brN d:Nat))) (dL1 d)
def dL3:List Lk:=if 2 < brN d∧d.br % 2=0 then wD d (dL2 d) ((brN d - 1:Nat):Int) 0 else dL2 d
def dL4:List Lk:=(List.range (stN d)).foldl (fun L s=>if 0 < pkL d.homes (2*s+1) % 3 then wD d L ((brN d+s:Nat):Int) (pkL d.homes (2*s+1) % (brN d:Nat)) else L) (dL3 d)
def dL5:List Lk:=(List.range (min 6 (d.chords.length / 2))).foldl (fun L i=>wD d L (pkL d.chords (2*i) % (brN d:Nat)) (pkL d.chords (2*i+1) % (brN d:Nat))) (dL4 d)
def dTopo:Tpo:=⟨((brN d+stN d:Nat):Int),dSt d,dL5 d⟩
end
theorem frz_mapS {α:Type} {enc:α→T} {k mr:Nat} {l:List α} {h:Heap} {p:Nat→Bool}:frzObj h p (.row k ((l.map enc).map .t) mr)=some (.row k ((l.map enc).map .t) mr):=by simp only [frzObj,av_map,if_true]
theorem wD_24 {d:Dr} {L:List Lk} {a b:Int} (h:L.length≤24):(wD d L a b).length≤24:=wth_24 h
theorem foldl_24 {α:Type} {f:List Lk→α→List Lk} (hf:∀ L a,L.length≤24→(f L a).length≤24):∀ (l:List α) (L:List Lk),L.length≤24→(l.foldl f L).length≤24:=by
 intro l
 induction l with
 | nil=>intro L h; exact h
 | cons a l ih=>intro L h; exact ih _ (hf _ _ h)
theorem dSt_len (d:Dr):(dSt d).length=brN d+stN d:=by simp [dSt]
theorem brN_bd {d:Dr} (h:drP d):1≤brN d∧brN d≤6∧((brN d:Nat):Int)=1+d.br % 6:=by
 have:=h.br
 unfold brN; omega
theorem stN_bd {d:Dr} (h:drP d):2≤stN d∧stN d≤6∧((stN d:Nat):Int)=2+d.st % 5:=by
 have:=h.st
 unfold stN; omega
theorem foldC_pure {σ:Type} (f:Nat→σ→σ):∀ (k i:Nat) (s:σ),foldC (ρ:=σ) (fun i (_:Unit) s=>Ctl.go (f i s)) id i (List.replicate k ()) s=(List.range' i k).foldl (fun s i=>f i s) s:=by
 intro k
 induction k with
 | zero=>intro i s; rfl
 | succ k ih=>intro i s; rw [List.replicate_succ,foldC_go (s':=f i s) rfl,ih,List.range'_succ,List.foldl_cons]
section
variable (c1 c2 c3 c4:Bool) (d:Dr) (hd:drP d)
abbrev eD (c1 c2 c3 c4:Bool) (d:Dr) (e:FEnv):Prop:=e 1=.t (.ip (drC c1 c2 c3 c4 d))∧e 2=.ref 0 1 0 0∧e 3=.t (I (brN d:Nat))∧e 5=.ref 3 1 0 0
include hd
theorem topo_l0 (dd nn:Nat) (hn:100 < nn) (R:Xit→FEnv→Heap→Prop) (e:FEnv) (he:eD c1 c2 c3 c4 d e∧e 4=.t (I (stN d:Nat))∧e 6=.t (I 0))
  (hR:∀ e,eD c1 c2 c3 c4 d e∧e 4=.t (I (stN d:Nat))→R (.exit 0) e (hpT ((brN d+stN d:Nat):Int) (dSt d) [] (dSt d).length 0 1)) :
  wpIter 4 (some [1,2,3,4,5,6]) (wc Try.prog pol (ans Try.prog pol) (inl Try.prog pol (ans Try.prog pol) nn dd) nn 22 il22l0) R nn e (hpT ((brN d+stN d:Nat):Int) [] [] 0 0 1):=by
 obtain ⟨b1,b2,b3⟩:=brN_bd hd
 obtain ⟨s1,s2,s3⟩:=stN_bd hd
 refine loop_upto (brN d+stN d) (step:=fun i (st:List Bool)=>.go (st++[decide (brN d≤i)])) (fin:=id)
  (St:=fun i st e h=>(eD c1 c2 c3 c4 d e∧e 4=.t (I (stN d:Nat))∧e 6=.t (I (i:Nat)))∧st.length=i∧h=hpT ((brN d+stN d:Nat):Int) st [] st.length 0 1)
  (Ex:=fun st x e h=>(eD c1 c2 c3 c4 d e∧e 4=.t (I (stN d:Nat)))∧x=.exit 0∧h=hpT ((brN d+stN d:Nat):Int) st [] st.length 0 1) (s:=[]) (by omega) ?_ ?_ (by omega) ?_ ?_
 ·intro i st e h Y R hi hlt hw ⟨⟨⟨e1,e2,e3,e5⟩,e4,e6⟩,hl,hh⟩ hk
  subst hh
  simp only [ctlK_go] at hk
  have hroom:(st.length+1)*1≤roomB:=ap_room (by omega) (by omega)
  have hl1:((st.map B).map AV.t).length=st.length:=by simp
  have hpush:((st.map B).map AV.t)++[.t (B (decide (brN d≤i)))]=(((st++[decide (brN d≤i)]).map B).map AV.t):=by simp
  have hd1:decide (((brN d:Nat):Int)≤(i:Nat))=decide (brN d≤i):=by congr 1; simp
  simp only [hpT] at hk ⊢
  rw [← hpush] at hk
  simp only [List.length_append,List.length_cons,List.length_nil] at hk
  (repeat' first|simp only [il22l0_go,il22l0b,go_sem,e1,e2,e3,e4,e5,e6,hlt,hw,hd1,hl1,hroom]|(with_reducible first|apply wD|apply wT|(apply wM; intro)|(apply wL; intro))|((with_reducible first|refine wA ?_ ?_|refine wE ?_); rfl))
  all_goals (refine hk _ _ ⟨?_,by omega,?_⟩ <;> simp only [go_sem,eD,e1,e2,e3,e4,e5,e6,hw])
 ·intro st e h Y R hlt ⟨⟨⟨e1,e2,e3,e5⟩,e4,e6⟩,hl,hh⟩ hk
  subst hh
  simp only [hpT] at hk ⊢
  (repeat' first|simp only [il22l0_go,il22l0b,go_sem,e1,e2,e3,e4,e5,e6,hlt]|(with_reducible first|apply wD|apply wT|(apply wM; intro)|(apply wL; intro))|((with_reducible first|refine wA ?_ ?_|refine wE ?_); rfl))
  all_goals (refine hk _ _ _ ⟨?_,rfl,rfl⟩; simp only [go_sem,eD,e1,e2,e3,e4,e5,e6])
 ·exact ⟨he,rfl,rfl⟩
 ·intro x e h ⟨h1,h2,h3⟩
  have hf:∀ (k i:Nat) (o:List Bool),foldC (ρ:=List Bool) (fun i (_:Unit) o=>Ctl.go (o++[decide (brN d≤i)])) id i (List.replicate k ()) o=o++(List.range' i k).map (fun n=>decide (brN d≤n)):=by
   intro k
   induction k with
   | zero=>intro i o; simp [foldC]
   | succ k ih=>intro i o; rw [List.replicate_succ,foldC_go (s':=o++[decide (brN d≤i)]) rfl,ih,List.range'_succ]; simp
  rw [hf,List.nil_append,← List.range_eq_range'] at h3
  subst h2 h3
  exact hR _ h1
theorem topo_l1 (dd nn:Nat) (hn:100 < nn) (R:Xit→FEnv→Heap→Prop) (e:FEnv) (he:eD c1 c2 c3 c4 d e∧e 4=.t (I (stN d:Nat))∧e 7=.t (I 1))
  (hR:∀ e,eD c1 c2 c3 c4 d e∧e 4=.t (I (stN d:Nat))→R (.exit 2) e (hpT ((brN d+stN d:Nat):Int) (dSt d) (dL1 d) (dSt d).length (dL1 d).length 1)) :
  wpIter 4 (some [1,2,3,4,5,7]) (wc Try.prog pol (ans Try.prog pol) (inl Try.prog pol (ans Try.prog pol) nn (dd+1)) nn 22 il22l1) R nn e (hpT ((brN d+stN d:Nat):Int) (dSt d) [] (dSt d).length 0 1):=by
 obtain ⟨b1,b2,b3⟩:=brN_bd hd
 obtain ⟨s1,s2,s3⟩:=stN_bd hd
 have hst:((dSt d).length:Int)=((brN d+stN d:Nat):Int):=by rw [dSt_len]
 refine loop_upto (brN d - 1) (step:=fun i (L:List Lk)=>.go (wD d L (i:Nat) ((i+1:Nat):Int))) (fin:=id)
  (St:=fun i L e h=>(eD c1 c2 c3 c4 d e∧e 4=.t (I (stN d:Nat))∧e 7=.t (I ((i+1:Nat):Int)))∧L.length≤24∧h=hpT ((brN d+stN d:Nat):Int) (dSt d) L (dSt d).length L.length 1)
  (Ex:=fun L x e h=>(eD c1 c2 c3 c4 d e∧e 4=.t (I (stN d:Nat)))∧x=.exit 2∧h=hpT ((brN d+stN d:Nat):Int) (dSt d) L (dSt d).length L.length 1) (s:=[]) (by omega) ?_ ?_ (by omega) ?_ ?_
 ·intro i L e h Y R hi _ _ ⟨⟨⟨e1,e2,e3,e5⟩,e4,e7⟩,hl,hh⟩ hk
  subst hh
  simp only [ctlK_go] at hk
  have hlt:decide (((i+1:Nat):Int) < (brN d:Nat))=true:=decide_eq_true (by omega)
  have v1:IntKind.i64.wrap (((i+1:Nat):Int) - 1)=(i:Nat):=by rw [wrap_i64 (by omega) (by omega)]; omega
  have v2:IntKind.i64.wrap (((i+1:Nat):Int)+1)=((i+1+1:Nat):Int):=by rw [wrap_i64 (by omega) (by omega)]; omega
  have hcall:=@with_inl c1 c2 c3 c4 d hd ((brN d+stN d:Nat):Int) (dSt d) L hst hl (by omega) 1 (Nat.le_refl _) (i:Nat) ((i+1:Nat):Int) dd nn hn
  have hk2:=hk
  have hl2:(wD d L (i:Nat) ((i+1:Nat):Int)).length≤24:=wD_24 hl
  change ∀ Q:AV→Heap→Prop,(∀ q5 m5 q8 l,m5≤1→Q (.agg (tpA _ (dSt d).length (wD d L (i:Nat) ((i+1:Nat):Int)).length)) (hpT _ (dSt d) (wD d L (i:Nat) ((i+1:Nat):Int)) (dSt d).length L.length 1++zzT _ (dSt d).length q5 m5 q8 l))→_ at hcall
  generalize wD d L (i:Nat) ((i+1:Nat):Int)=L2 at *
  simp only [hpT,zzT,drT,List.cons_append,List.nil_append] at hcall hk ⊢
  (repeat' first|simp only [il22l1_go,il22l1b,go_sem,e1,e2,e3,e4,e5,e7,hlt,v1,v2]|(with_reducible first|apply wD|apply wT|(apply wM; intro)|(apply wL; intro))|((with_reducible first|refine wA ?_ ?_|refine wE ?_); rfl))
  with_reducible refine hcall _ ?_
  intro q5 m5 q8 l hm5
  (repeat' first|simp only [List.cons_append,List.nil_append,go_sem,e1,e2,e3,e4,e5,e7,v2,frz_mapS]|(with_reducible first|apply wD|apply wT|(apply wM; intro)|(apply wL; intro))|((with_reducible first|refine wA ?_ ?_|refine wE ?_); rfl))
  all_goals (refine hk _ _ ⟨?_,hl2,?_⟩ <;> simp only [go_sem,eD,e1,e2,e3,e4,e5,e7,v2])
 ·intro L e h Y R _ ⟨⟨⟨e1,e2,e3,e5⟩,e4,e7⟩,hl,hh⟩ hk
  subst hh
  have hlt:decide (((brN d - 1+1:Nat):Int) < (brN d:Nat))=false:=decide_eq_false (by omega)
  simp only [hpT] at hk ⊢
  (repeat' first|simp only [il22l1_go,il22l1b,go_sem,e1,e2,e3,e4,e5,e7,hlt]|(with_reducible first|apply wD|apply wT|(apply wM; intro)|(apply wL; intro))|((with_reducible first|refine wA ?_ ?_|refine wE ?_); rfl))
  all_goals (refine hk _ _ _ ⟨?_,rfl,rfl⟩; simp only [go_sem,eD,e1,e2,e3,e4,e5,e7])
 ·exact ⟨he,Nat.zero_le _,rfl⟩
 ·intro x e h ⟨h1,h2,h3⟩
  rw [foldC_pure (fun i L=>wD d L (i:Nat) ((i+1:Nat):Int)),← List.range_eq_range'] at h3
  subst h2 h3
  exact hR _ h1
end
end Go.Proofs.Ytbibdnlbpjnieaa
