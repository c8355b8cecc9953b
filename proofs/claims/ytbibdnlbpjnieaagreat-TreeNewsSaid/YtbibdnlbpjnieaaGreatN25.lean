/- Part 25 of the proof of TreeNews. -/
import Derived.Test.YtbibdnlbpjnieaaGreatN24
set_option linter.all false
set_option maxRecDepth 100000
set_option maxHeartbeats 4000000
namespace Go.Proofs.YtbibdnlbpjnieaaGreat
open Go Go.Abs
def rt0 (w:Nw):List (Int × Int):=(List.range w.t.nodes.toNat).map (fun n=>(prA w n,((n:Nat):Int)))
def rtRound (w:Nw) (s:List (Int × Int) × Nat):List (Int × Int) × Nat:=(List.range w.t.links.length).foldl (upS w (rtS w)) s
def rtS1 (w:Nw) (R:List (Int × Int)) (i:Nat):List (Int × Int) :=
 (R.set (lnk w.t i).a.toNat (minR (rA R (lnk w.t i).a) (rA R (lnk w.t i).b))).set (lnk w.t i).b.toNat (minR (rA R (lnk w.t i).a) (rA R (lnk w.t i).b))
def rtRoundL (w:Nw) (R:List (Int × Int)):List (Int × Int):=(List.range w.t.links.length).foldl (upS w (rtS1 w)) R
def rootsL (w:Nw):List (Int × Int):=(List.range w.t.nodes.toNat).foldl (fun R _=>rtRoundL w R) (rt0 w)
theorem upS_fst {σ τ:Type} (w:Nw) (f:σ × τ→Nat→σ × τ) (g:σ→Nat→σ) (h:∀ s a,(f s a).1=g s.1 a) (s:σ × τ) (n:Nat):(upS w f s n).1=upS w g s.1 n:=by
 unfold upS
 split
 ·exact h s n
 ·rfl
theorem rtRound_fst (w:Nw) (s:List (Int × Int) × Nat):(rtRound w s).1=rtRoundL w s.1:=fold_fst _ _ (upS_fst w (rtS w) (rtS1 w) (fun _ _=>rfl)) _ _
theorem rtRound_ok {w:Nw} {s:List (Int × Int) × Nat} (h:rtI w s):rtI w (rtRound w s):=by
 unfold rtRound
 generalize w.t.links.length=k
 induction k with
 | zero=>exact h
 | succ k ih =>
  rw [List.range_succ,List.foldl_append,List.foldl_cons,List.foldl_nil]
  unfold upS
  split
  ·exact rtS_ok ih
  ·exact ih
theorem roots_ans (f:Fl) (w:Nw) (hok:okT w.t=true) (hpl:(w.prios.length:Int)=w.t.nodes) (hdl:w.down.length=w.t.links.length):ans Tryz.prog pol 88 [nwT f w]=some (.sl true 2 ((rootsL w).map encP)):=by
 obtain ⟨z1,z2,z3⟩:=okT_size hok
 generalize hN:w.t.nodes.toNat=N at *
 have hNn:w.t.nodes=(N:Nat):=by omega
 have hroom:16*N≤roomB:=by rw [Nat.mul_comm]; exact ap_room (by omega) (by omega)
 have hbig:N≤9223372036854775807:=by omega
 obtain ⟨nn,h2000⟩:∃ nn,2000 < nn:=⟨2001,by omega⟩
 have hn2:200 < nn:=by omega
 have asn:asNat (.t (I w.t.nodes))=some N:=by rw [hNn]; rfl
 refine ans_go nn 5 il88_eq (Nat.le_of_ble_eq_true rfl) ?_
 (repeat' first|simp only [il88c,go_sem,hroom,hbig,asn]|(with_reducible first|apply wD|apply wT|(apply wM; intro)|(apply wL; intro))|((with_reducible first|refine wA ?_ ?_|refine wE ?_); rfl))
 have hrep:List.replicate N (AV.t (T.agg [T.sc (Value.int IntKind.i64 0),T.sc (Value.int IntKind.i64 0)]))=((List.replicate N ((0,0):Int × Int)).map encP).map .t:=by simp [encP]
 rw [hrep]
 let fv:Nat→Int × Int:=fun n=>(prA w n,((n:Nat):Int))
 refine loop_range (List.replicate N ()) (fun _=>I 0) (step:=fun n _ (s:List (Int × Int) × Nat)=>.go (s.1.set n (fv n),N)) (fin:=id)
  (St:=fun n s e h=>(e 1=.t (.ip (nwC f w))∧e 3=.ref 1 1 0 0∧e 13=.t (I (N:Nat))∧e 14=.t (I (n:Nat)))∧(s.1=fillL fv (0,0) N n∧s.2≤N)∧h=[.row 2 ((s.1.map encP).map .t) s.2,.row 1 [.ms 0 N 0 N 2 true] 1])
  (Ex:=fun s x e h=>(e 1=.t (.ip (nwC f w))∧e 3=.ref 1 1 0 0)∧x=.exit 0∧(s.1=rt0 w∧s.2≤N)∧h=[.row 2 ((s.1.map encP).map .t) s.2,.row 1 [.ms 0 N 0 N 2 true] 1]) (s:=(List.replicate N (0,0),0)) (by simp; omega) ?_ ?_ (by simp; omega) ?_ ?_
 ·intro n _ s e h Y R hm hi _ _ hlt hw ⟨hs,⟨hf,hmr⟩,hh⟩ hk
  subst hh
  simp only [List.length_replicate] at hi hlt
  simp only [ctlK_go] at hk
  obtain ⟨s,mr⟩:=s
  dsimp only at hf hmr hk
  have k1:=id_ans f w n (show n < w.prios.length by omega)
  have hl:s.length=N:=by rw [hf]; exact fillL_len _ _ (Nat.le_of_lt hi)
  have hsl:((s.map encP).map AV.t).length=N:=by simp [hl]
  obtain ⟨y,hy⟩:∃ y,s[n]? = some y:=⟨s[n]'(by omega),by simp [hl,hi]⟩
  have gy:((s.map encP).map AV.t)[n]? = some (.t (.agg [I y.1,I y.2])):=map_get (enc:=encP) hy
  have hset:=map_set (enc:=encP) (l:=s) (i:=n) (x:=fv n)
  have hex:encP (fv n)=.agg [I (prA w n),I (n:Nat)]:=rfl
  rw [hex] at hset
  have hav:∀ (q:Nat→Bool) (r:T),avoidAll q (((s.map encP).map AV.t).set n (.t r))=true:=fun q r=>by rw [← List.map_set,av_map]
  rw [← hset] at hk
  have hst:s.set n (fv n)=fillL fv (0,0) N (n+1):=by rw [hf]; exact fillL_set hi rfl
  (repeat' first|simp only [il88l0_go,il88l0b,go_sem,hs,hlt,hw,k1,gy,hsl,hi,hmr,hav]|(with_reducible first|apply wD|apply wT|(apply wM; intro)|(apply wL; intro))|((with_reducible first|refine wA ?_ ?_|refine wE ?_); rfl))
  all_goals (refine hk _ _ ⟨?_,⟨hst,Nat.le_refl _⟩,?_⟩ <;> simp only [go_sem,hs,hw])
 ·intro s e h Y R hlt ⟨hs,hf,hh⟩ hk
  subst hh
  simp only [List.length_replicate] at hlt hs hf
  (repeat' first|simp only [il88l0_go,il88l0b,go_sem,hs,hlt]|(with_reducible first|apply wD|apply wT|(apply wM; intro)|(apply wL; intro))|((with_reducible first|refine wA ?_ ?_|refine wE ?_); rfl))
  have hf2:s.1=rt0 w∧s.2≤N:=⟨by rw [hf.1,fillL_all,rt0,hN],hf.2⟩
  all_goals (refine hk _ _ _ ⟨?_,rfl,hf2,rfl⟩; simp only [go_sem,hs,id])
 ·refine ⟨?_,⟨(fillL_zero _ _ _).symm,Nat.zero_le _⟩,rfl⟩
  simp only [go_sem]
 ·intro x e h ⟨hs,hx,hf,hh⟩
  generalize foldC (ρ:=List (Int × Int) × Nat) _ _ _ _ _=s at *
  subst hx hh
  have hI0:rtI w s:=⟨by rw [hf.1,hN]; simp [rt0,hN],by rw [hN]; exact hf.2⟩
  have hroot:rootsL w=((List.range N).foldl (fun s _=>rtRound w s) s).1:=by
   rw [fold_fst (fun s _=>rtRound w s) (fun R _=>rtRoundL w R) (fun s _=>rtRound_fst w s),hf.1,rootsL,hN]
  rw [hroot]
  obtain ⟨hI1,hI2⟩:=id hI0
  rw [hN] at hI1 hI2
  have hl0:((s.1.map encP).map AV.t).length=N:=by simp [hI1]
  (repeat' first|simp only [il88c,go_sem,hs]|(with_reducible first|apply wD|apply wT|(apply wM; intro)|(apply wL; intro))|((with_reducible first|refine wA ?_ ?_|refine wE ?_); rfl))
  refine loop_range (List.replicate N ()) (fun _=>I 0) (step:=fun n _ (s:List (Int × Int) × Nat)=>.go (rtRound w s)) (fin:=id)
   (St:=fun n s e h=>(e 1=.t (.ip (nwC f w))∧e 3=.ref 1 1 0 0∧e 25=.t (I (N:Nat))∧e 26=.t (I (n:Nat)))∧rtI w s∧h=[.row 2 ((s.1.map encP).map .t) s.2,.row 1 [.ms 0 N 0 N 2 true] 1])
   (Ex:=fun s x e h=>(e 3=.ref 1 1 0 0)∧x=.exit 2∧rtI w s∧h=[.row 2 ((s.1.map encP).map .t) s.2,.row 1 [.ms 0 N 0 N 2 true] 1]) (s:=s) (by simp; omega) ?_ ?_ (by simp; omega) ?_ ?_
  ·intro n _ s e h Y R hm hi _ _ hlt hw ⟨hs,hI,hh⟩ hk
   subst hh
   simp only [List.length_replicate] at hi hlt
   simp only [ctlK_go] at hk
   have hI2:=rtRound_ok hI
   have ku:=up_ans f w
   rw [il88l1_go]
   simp only [il88l1b]
   generalize hrf:rfOf Tryz.prog 88 0=rf
   (repeat' first|simp only [List.cons_append,List.nil_append,go_sem,hs,hlt,hw,ku]|(with_reducible first|apply wD|apply wT|(apply wM; intro)|(apply wL; intro))|((with_reducible first|refine wA ?_ ?_|refine wE ?_); rfl))
   have key:∀ E:FEnv,([.row 2 ((s.1.map encP).map .t) s.2,.row 1 [.ms 0 N 0 N 2 true] 1,.loop 88 (lpEnv 63 (tidyF (some [3]) E)) [30] rf.1 rf.2 false none]:Heap)=hpRt N rf E s:=fun E=>rfl
   rw [key]
   have h23:2 < 3:=by omega
   let σ:={ s:List (Int × Int) × Nat // rtI w s }
   let nx:σ→Nat→σ:=fun s n=>⟨rtS w s.1 n,rtS_ok s.2⟩
   have hfv:∀ (s:σ) k,((List.range k).foldl (upS w nx) s).1=(List.range k).foldl (upS w (rtS w)) s.1:=by
    intro s k
    induction k with
    | zero=>rfl
    | succ k ih =>
     rw [List.range_succ,List.foldl_append,List.foldl_append,List.foldl_cons,List.foldl_cons,List.foldl_nil,List.foldl_nil,← ih]
     unfold upS
     split <;> rfl
   have hs0:∀ E:FEnv,hpRt N rf E s=(fun s:σ=>hpRt N rf E s.1) ⟨s,hI⟩:=fun E=>rfl
   rw [hs0]
   with_reducible refine @up_iter σ (fun s:σ=>hpRt N rf _ s.1) 3 (fun s=>rfl) nx 4 nn 2 w ?_ h23 f hok hdl ?_ ⟨s,hI⟩ _ hn2 ?_
   ·intro s h q hq
    exact hpRt_frz N rf _ (by simp only [go_sem,hs]) s.1 h q hq
   ·intro s i Q hi _ hQ
    have hQ':∀ X',Q (.t (B true)) (hpRt N rf _ (rtS w s.1 i)++[.row 4 [.t (lkT (lnk w.t i))] 1]++X'):=hQ
    have hy:=fun E hE=>@roots_yield rf hrf w hok E hE s.1 s.2 i hi 3 nn hn2 Q
    rw [hN] at hy
    with_reducible exact hy _ (by simp only [go_sem,hs]) hQ'
   ·intro v
    change rfEnd _ _ _ v (hpRt N rf _ ((List.range w.t.links.length).foldl (upS w nx) ⟨s,hI⟩).1)
    rw [hfv]
    have hrr:rtRound w s=(List.range w.t.links.length).foldl (upS w (rtS w)) s:=rfl
    rw [← hrr]
    generalize rtRound w s=s3 at *
    simp only [hpRt,lpRt,List.cons_append,List.nil_append]
    (repeat' first|simp only [List.cons_append,List.nil_append,go_sem,frz_mapA,hs,hw]|(with_reducible first|apply wD|apply wT|(apply wM; intro)|(apply wL; intro))|((with_reducible first|refine wA ?_ ?_|refine wE ?_); rfl))
    all_goals (refine hk _ _ ⟨?_,hI2,rfl⟩; simp only [go_sem,hs,hw])
  ·intro s e h Y R hlt ⟨hs,hI,hh⟩ hk
   subst hh
   simp only [List.length_replicate] at hlt hs
   (repeat' first|simp only [il88l1_go,il88l1b,go_sem,hs,hlt]|(with_reducible first|apply wD|apply wT|(apply wM; intro)|(apply wL; intro))|((with_reducible first|refine wA ?_ ?_|refine wE ?_); rfl))
   all_goals (refine hk _ _ _ ⟨?_,rfl,hI,rfl⟩; simp only [go_sem,hs,id])
  ·refine ⟨?_,hI0,rfl⟩
   simp only [go_sem,hs]
  ·intro x e h ⟨hs,hx,hI,hh⟩
   have hfo:∀ (l:List Unit) (i:Nat) (s:List (Int × Int) × Nat),foldC (ρ:=List (Int × Int) × Nat) (fun n _ s=>Ctl.go (rtRound w s)) id i l s=(List.range' i l.length).foldl (fun s _=>rtRound w s) s:=by
    intro l
    induction l with
    | nil=>intro i s; rfl
    | cons x l ih =>
     intro i s
     rw [foldC_go (s':=rtRound w s) rfl,ih,List.length_cons,List.range'_succ,List.foldl_cons]
   rw [hfo,List.length_replicate,← List.range_eq_range'] at hI hh
   generalize (List.range N).foldl (fun s _=>rtRound w s) s=s2 at *
   subst hx hh
   obtain ⟨hJ1,hJ2⟩:=hI
   rw [hN] at hJ1 hJ2
   have hl2:((s2.1.map encP).map AV.t).length=N:=by simp [hJ1]
   (repeat' first|simp only [il88c,go_sem,hs,hl2,hJ2]|(with_reducible first|apply wD|apply wT|(apply wM; intro)|(apply wL; intro))|((with_reducible first|refine wA ?_ ?_|refine wE ?_); rfl))
end Go.Proofs.YtbibdnlbpjnieaaGreat
namespace Go.Proofs.YtbibdnlbpjnieaaGreat
open Go Go.Abs
def minI (x y:Int):Int:=if y < x then y else x
def dA (D:List Int) (n:Int):Int:=D[n.toNat]?.getD 0
def dsA (D:List Int) (l:Lk):Int:=minI (dA D l.a) (dA D l.b+l.per)
def dsB (D:List Int) (l:Lk):Int:=minI (dA D l.b) (dsA D l+l.per)
def dsS1 (w:Nw) (D:List Int) (i:Nat):List Int:=(D.set (lnk w.t i).a.toNat (dsA D (lnk w.t i))).set (lnk w.t i).b.toNat (dsB D (lnk w.t i))
def dsS (w:Nw) (s:List Int × Nat) (i:Nat):List Int × Nat:=(dsS1 w s.1 i,w.t.nodes.toNat)
def dsI (w:Nw) (s:List Int × Nat):Prop:=(s.1.length=w.t.nodes.toNat∧s.2≤w.t.nodes.toNat)∧∀ x∈s.1,0≤x∧x≤12000
theorem minI_bd {x y:Int} (hx:0≤x∧x≤12000) (hy:0≤y):0≤minI x y∧minI x y≤12000:=by unfold minI; split <;> omega
theorem dA_bd {D:List Int} (h:∀ x∈D,0≤x∧x≤12000) (n:Int):0≤dA D n∧dA D n≤12000:=by
 unfold dA
 cases hq:D[n.toNat]? with
 | none=>simp
 | some x=>exact h x (List.mem_of_getElem? hq)
theorem dsS_ok {w:Nw} (hok:okT w.t=true) {s:List Int × Nat} {i:Nat} (hi:i < w.t.links.length) (h:dsI w s):dsI w (dsS w s i):=by
 obtain ⟨⟨h1,h2⟩,h3⟩:=h
 have hp:=per_ok hok (p:=2*i) (by omega)
 have e1:2*i / 2=i:=by omega
 rw [perP,e1] at hp
 have ha:=dA_bd h3 (lnk w.t i).a
 have hb:=dA_bd h3 (lnk w.t i).b
 have h4:0≤dsA s.1 (lnk w.t i)∧dsA s.1 (lnk w.t i)≤12000:=minI_bd ha (by omega)
 have h5:0≤dsB s.1 (lnk w.t i)∧dsB s.1 (lnk w.t i)≤12000:=minI_bd hb (by omega)
 refine ⟨⟨by simp [dsS,dsS1,h1],Nat.le_refl _⟩,fun x hx=>?_⟩
 simp only [dsS,dsS1] at hx
 rcases List.mem_or_eq_of_mem_set hx with hx|rfl
 ·rcases List.mem_or_eq_of_mem_set hx with hx|rfl
  ·exact h3 x hx
  ·exact h4
 ·exact h5
noncomputable def lpDs (rf:Code × Code) (E:FEnv):AObj:=.loop 89 (lpEnv 57 (tidyF (some [7]) E)) [38] rf.1 rf.2 false none
noncomputable def hpDs (N:Nat) (rf:Code × Code) (E:FEnv) (s:List Int × Nat):Heap :=
 [.row 1 ((s.1.map I).map .t) s.2,.row 1 [.ms 0 N 0 N 1 true] 1,.row 1 [.fn (.func 123) [] [.ref 1 1 0 0]] 1,lpDs rf E]
theorem hpDs_frz (N:Nat) (rf:Code × Code) (E:FEnv) (hE:E 7=.ref 2 1 0 0) (s:List Int × Nat) (h:Heap) (q:Nat) (hq:4≤q):mapO (frzObj h (fromB q)) (hpDs N rf E s)=some (hpDs N rf E s):=by
 have f1:decide (q≤2)=false:=decide_eq_false (by omega)
 have h1:frzObj h (fromB q) (lpDs rf E)=some (lpDs rf E):=by
  rw [lpDs,frz_loop]
  simp only [go_sem,hE,f1]
 have a1:avoidAll (fromB q) [.ms 0 N 0 N 1 true]=true:=by simp [avoidAll,avoid,fromB]; omega
 have a2:avoidAll (fromB q) [.fn (.func 123) [] [.ref 1 1 0 0]]=true:=by simp [avoidAll,avoid,fromB]; omega
 simp only [hpDs,mapO,h1,frz_mapA,frz_rowA a1,frz_rowA a2]
theorem dist_yield (rf:Code × Code) (hrf:rfOf Tryz.prog 89 0=rf) (w:Nw) (hok:okT w.t=true) (E:FEnv) (hE:E 7=.ref 2 1 0 0) (s:List Int × Nat) (hI:dsI w s) (i:Nat) (hi:i < w.t.links.length) (dd nn:Nat) (hn:200 < nn) (Q:AV→Heap→Prop)
  (hQ:∀ X',Q (.t (B true)) (hpDs w.t.nodes.toNat rf E (dsS w s i)++[.row 4 [.t (lkT (lnk w.t i))] 1]++X')) :
  oB (inl Tryz.prog pol (ans Tryz.prog pol) nn (dd+2) (.yl 3) [.t (lkT (lnk w.t i))] (hpDs w.t.nodes.toNat rf E s++[.row 4 [.t (lkT (lnk w.t i))] 1])) Q:=by
 subst hrf
 obtain ⟨⟨ha1,ha2⟩,⟨hb1,hb2⟩,hab⟩:=ends_at hok hi
 have hp:=per_ok hok (p:=2*i) (by omega)
 have e1:2*i / 2=i:=by omega
 rw [perP,e1] at hp
 obtain ⟨z1,z2,z3⟩:=okT_size hok
 obtain ⟨s,mr⟩:=s
 obtain ⟨⟨hl,hmr⟩,hbd⟩:=hI
 dsimp only at hl hmr hbd
 have hda:=dA_bd hbd (lnk w.t i).a
 have hdb:=dA_bd hbd (lnk w.t i).b
 have hdA:0≤dsA s (lnk w.t i)∧dsA s (lnk w.t i)≤12000:=minI_bd hda (by omega)
 simp only [dsS,dsS1] at hQ
 generalize lnk w.t i=l at *
 obtain ⟨la,lb,lp,ld⟩:=l
 dsimp only at ha1 ha2 hb1 hb2 hab hQ hp hda hdb hdA ⊢
 obtain ⟨a,rfl⟩:∃ a:Nat,la=(a:Nat):=⟨la.toNat,by omega⟩
 obtain ⟨b,rfl⟩:∃ b:Nat,lb=(b:Nat):=⟨lb.toNat,by omega⟩
 generalize hNN:w.t.nodes.toNat=N at *
 have haN:a < N:=by omega
 have hbN:b < N:=by omega
 obtain ⟨x,hx⟩:∃ x,s[a]? = some x:=⟨s[a]'(by omega),by simp [hl,haN]⟩
 obtain ⟨y,hy⟩:∃ y,s[b]? = some y:=⟨s[b]'(by omega),by simp [hl,hbN]⟩
 have hra:dA s ((a:Nat):Int)=x:=by simp [dA,hx]
 have hrb:dA s ((b:Nat):Int)=y:=by simp [dA,hy]
 have hA:dsA s ⟨(a:Nat),(b:Nat),lp,ld⟩=minI x (y+lp):=by simp only [dsA,hra,hrb]
 have hB:dsB s ⟨(a:Nat),(b:Nat),lp,ld⟩=minI y (minI x (y+lp)+lp):=by simp only [dsB,hA,hrb]
 rw [hA] at hdA
 rw [hra] at hda
 rw [hrb] at hdb
 rw [hA,hB] at hQ
 simp only [Int.toNat_natCast] at hQ
 have v1:IntKind.i64.wrap (y+lp)=y+lp:=wrap_i64 (by omega) (by omega)
 have v2:IntKind.i64.wrap ((if y+lp < x then y+lp else x)+lp)=(if y+lp < x then y+lp else x)+lp:=by
  have:minI x (y+lp)=(if y+lp < x then y+lp else x):=rfl
  rw [← this]; exact wrap_i64 (by omega) (by omega)
 have gx:((s.map I).map AV.t)[a]? = some (.t (I x)):=map_get (enc:=I) hx
 have gy:((s.map I).map AV.t)[b]? = some (.t (I y)):=map_get (enc:=I) hy
 have hsl:((s.map I).map AV.t).length=N:=by simp [hl]
 have hcl:(T.agg [I ((a:Nat):Int),I ((b:Nat):Int),I lp,I ld]).cells=[I ((a:Nat):Int),I ((b:Nat):Int),I lp,I ld]:=rfl
 have hab':a≠b:=fun h=>hab (by rw [h])
 have gy2:∀ r:AV,(((s.map I).map AV.t).set a r)[b]? = some (.t (I y)):=fun r=>by rw [List.getElem?_set_ne hab']; exact gy
 have gx2:∀ r:AV,(((s.map I).map AV.t).set a r)[a]? = some r:=fun r=>List.getElem?_set_self (by omega)
 have hsl2:∀ r:AV,(((s.map I).map AV.t).set a r).length=N:=fun r=>by simp [hl]
 have hfin:∀ r q:Int,(((s.set a r).set b q).map I).map AV.t=(((s.map I).map AV.t).set a (.t (I r))).set b (.t (I q)):=fun r q=>by
  rw [← map_set (enc:=I),← map_set (enc:=I)]
 have hq:=hQ
 have hav:∀ (q:Nat→Bool) (r u:T),avoidAll q ((((s.map I).map AV.t).set a (.t r)).set b (.t u))=true:=fun q r u=>by rw [← List.map_set,← List.map_set,av_map]
 simp only [hpDs,lpDs,List.cons_append,List.nil_append] at hq ⊢
 rw [hfin] at hq
 simp only [minI] at hq
 generalize (s.map I).map AV.t=S at *
 have hfc:(AV.fn (.func 123) [] [.ref 1 1 0 0]).cells=[AV.fn (.func 123) [] [.ref 1 1 0 0]]:=rfl
 with_reducible refine oB_yl (E:=tidyF (some [7]) E) rfl rfl rfl il89r0a_eq il89r0b_eq ?_
 (repeat' first|simp only [il89r0a,il89r0b,go_sem,hE,hcl,gx,gy,hsl,haN,hbN,hmr,gx2,gy2,hsl2,hav,v1,v2,hfc]|(with_reducible first|apply wD|apply wT|(apply wM; intro)|(apply wL; intro))|((with_reducible first|refine wA ?_ ?_|refine wE ?_); rfl)|((with_reducible refine oB_inl il123_eq ?_ ?_); exact Nat.le_of_ble_eq_true rfl; simp only [il123c]))
 all_goals exact hq _
end Go.Proofs.YtbibdnlbpjnieaaGreat
namespace Go.Proofs.YtbibdnlbpjnieaaGreat
open Go Go.Abs
def ds0 (w:Nw) (R:List (Int × Int)):List Int:=(List.range w.t.nodes.toNat).map (fun n=>if rA R ((n:Nat):Int)=(prA w n,((n:Nat):Int)) then 0 else 12000)
def dsRound (w:Nw) (s:List Int × Nat):List Int × Nat:=(List.range w.t.links.length).foldl (upS w (dsS w)) s
def dsRoundL (w:Nw) (D:List Int):List Int:=(List.range w.t.links.length).foldl (upS w (dsS1 w)) D
def distL (w:Nw) (R:List (Int × Int)):List Int:=(List.range w.t.nodes.toNat).foldl (fun D _=>dsRoundL w D) (ds0 w R)
theorem dsRound_fst (w:Nw) (s:List Int × Nat):(dsRound w s).1=dsRoundL w s.1:=fold_fst _ _ (upS_fst w (dsS w) (dsS1 w) (fun _ _=>rfl)) _ _
theorem upDs_ok {w:Nw} (hok:okT w.t=true) {s:List Int × Nat} {i:Nat} (hi:i < w.t.links.length) (h:dsI w s):dsI w (upS w (dsS w) s i):=by
 unfold upS
 split
 ·exact dsS_ok hok hi h
 ·exact h
theorem dsRound_ok {w:Nw} (hok:okT w.t=true) {s:List Int × Nat} (h:dsI w s):dsI w (dsRound w s):=by
 unfold dsRound
 have:∀ k,k≤w.t.links.length→dsI w ((List.range k).foldl (upS w (dsS w)) s):=by
  intro k
  induction k with
  | zero=>intro _; exact h
  | succ k ih =>
   intro hk
   rw [List.range_succ,List.foldl_append,List.foldl_cons,List.foldl_nil]
   exact upDs_ok hok (by omega) (ih (by omega))
 exact this _ (Nat.le_refl _)
theorem distances_ans (f:Fl) (c:Bool) (w:Nw) (R:List (Int × Int)) (hok:okT w.t=true) (hpl:(w.prios.length:Int)=w.t.nodes) (hdl:w.down.length=w.t.links.length) (hR:R.length=w.t.nodes.toNat):ans Tryz.prog pol 89 [nwT f w,.sl c 2 (R.map encP)]=some (.sl true 1 ((distL w R).map I)):=by
 obtain ⟨z1,z2,z3⟩:=okT_size hok
 generalize hN:w.t.nodes.toNat=N at *
 have hNn:w.t.nodes=(N:Nat):=by omega
 have hroom:8*N≤roomB:=by rw [Nat.mul_comm]; exact ap_room (by omega) (by omega)
 have hbig:N≤9223372036854775807:=by omega
 obtain ⟨nn,h2000⟩:∃ nn,2000 < nn:=⟨2001,by omega⟩
 have hn2:200 < nn:=by omega
 have asn:asNat (.t (I w.t.nodes))=some N:=by rw [hNn]; rfl
 refine ans_go nn 6 il89_eq (Nat.le_of_ble_eq_true rfl) ?_
 (repeat' first|simp only [il89c,go_sem,hroom,hbig,asn]|(with_reducible first|apply wD|apply wT|(apply wM; intro)|(apply wL; intro))|((with_reducible first|refine wA ?_ ?_|refine wE ?_); rfl))
 have hrep:List.replicate N (AV.t (T.sc (Value.int IntKind.i64 0)))=((List.replicate N (0:Int)).map I).map .t:=by simp
 rw [hrep]
 let fv:Nat→Int:=fun n=>if rA R ((n:Nat):Int)=(prA w n,((n:Nat):Int)) then 0 else 12000
 refine loop_range (List.replicate N ()) (fun _=>I 0) (step:=fun n _ (s:List Int × Nat)=>.go (s.1.set n (fv n),if fv n=0 then s.2 else N)) (fin:=id)
  (St:=fun n s e h=>(e 1=.t (.sl c 2 (R.map encP))∧e 2=.t (.ip (nwC f w))∧e 5=.ref 1 1 0 0∧e 15=.t (I (N:Nat))∧e 16=.t (I (n:Nat)))∧(s.1=fillL fv 0 N n∧s.2≤N)∧h=[.row 1 ((s.1.map I).map .t) s.2,.row 1 [.ms 0 N 0 N 1 true] 1])
  (Ex:=fun s x e h=>(e 2=.t (.ip (nwC f w))∧e 5=.ref 1 1 0 0)∧x=.exit 0∧(s.1=ds0 w R∧s.2≤N)∧h=[.row 1 ((s.1.map I).map .t) s.2,.row 1 [.ms 0 N 0 N 1 true] 1]) (s:=(List.replicate N 0,0)) (by simp; omega) ?_ ?_ (by simp; omega) ?_ ?_
 ·intro n _ s e h Y R' hm hi _ _ hlt hw ⟨hs,⟨hf,hmr⟩,hh⟩ hk
  subst hh
  simp only [List.length_replicate] at hi hlt
  simp only [ctlK_go] at hk
  obtain ⟨s,mr⟩:=s
  dsimp only at hf hmr hk
  have k1:=id_ans f w n (show n < w.prios.length by omega)
  have hl:s.length=N:=by rw [hf]; exact fillL_len _ _ (Nat.le_of_lt hi)
  have hsl:((s.map I).map AV.t).length=N:=by simp [hl]
  have hgs:s[n]? = some 0:=by
   rw [hf,fillL,List.getElem?_append_right (by simp)]
   simp only [List.length_map,List.length_range,Nat.sub_self]
   rw [List.getElem?_replicate,if_pos (by omega)]
  have gy:((s.map I).map AV.t)[n]? = some (.t (I 0)):=map_get (enc:=I) hgs
  obtain ⟨y,hy⟩:∃ y,R[n]? = some y:=⟨R[n]'(by omega),by simp [show n < R.length by omega]⟩
  have hra:rA R ((n:Nat):Int)=y:=by simp [rA,hy]
  have gR:(R.map encP)[n]? = some (.agg [I y.1,I y.2]):=by simp [hy,encP]
  have hRl:n < R.length:=by omega
  have hcy:(T.agg [I y.1,I y.2]).cells=[I y.1,I y.2]:=rfl
  have hav:∀ (q:Nat→Bool) (r:T),avoidAll q (((s.map I).map AV.t).set n (.t r))=true:=fun q r=>by rw [← List.map_set,av_map]
  have hst:s.set n (fv n)=fillL fv 0 N (n+1):=by rw [hf]; exact fillL_set hi rfl
  by_cases hq:y.1=prA w n∧y.2=((n:Nat):Int)
  ·have d1:=decide_eq_true hq
   have hfv:fv n=0:=by simp only [fv]; rw [hra,if_pos (Prod.ext hq.1 hq.2)]
   rw [hfv] at hk hst
   have hs0:s.set n 0=s:=set_same hgs
   rw [hs0] at hk hst
   simp only [if_true] at hk
   (repeat' first|simp only [il89l0_go,il89l0b,go_sem,hs,hlt,hw,k1,gR,hcy,hRl,d1,gy,hsl,hi,hmr,hav]|(with_reducible first|apply wD|apply wT|(apply wM; intro)|(apply wL; intro))|((with_reducible first|refine wA ?_ ?_|refine wE ?_); rfl))
   all_goals (refine hk _ _ ⟨?_,⟨hst,hmr⟩,rfl⟩; simp only [go_sem,hs,hw])
  ·have d1:=decide_eq_false hq
   have hfv:fv n=12000:=by
    simp only [fv]
    rw [hra,if_neg (fun h=>hq (by rw [h]; exact ⟨rfl,rfl⟩))]
   rw [hfv] at hk hst
   have hset:=map_set (enc:=I) (l:=s) (i:=n) (x:=(12000:Int))
   simp only [show ((12000:Int)=0)=False by decide,if_false] at hk
   rw [← hset] at hk
   (repeat' first|simp only [il89l0_go,il89l0b,go_sem,hs,hlt,hw,k1,gR,hcy,hRl,d1,gy,hsl,hi,hmr,hav]|(with_reducible first|apply wD|apply wT|(apply wM; intro)|(apply wL; intro))|((with_reducible first|refine wA ?_ ?_|refine wE ?_); rfl))
   all_goals (refine hk _ _ ⟨?_,⟨hst,Nat.le_refl _⟩,?_⟩ <;> simp only [go_sem,hs,hw])
 ·intro s e h Y R' hlt ⟨hs,hf,hh⟩ hk
  subst hh
  simp only [List.length_replicate] at hlt hs hf
  (repeat' first|simp only [il89l0_go,il89l0b,go_sem,hs,hlt]|(with_reducible first|apply wD|apply wT|(apply wM; intro)|(apply wL; intro))|((with_reducible first|refine wA ?_ ?_|refine wE ?_); rfl))
  have hf2:s.1=ds0 w R∧s.2≤N:=⟨by rw [hf.1,fillL_all,ds0,hN],hf.2⟩
  all_goals (refine hk _ _ _ ⟨?_,rfl,hf2,rfl⟩; simp only [go_sem,hs,id])
 ·refine ⟨?_,⟨(fillL_zero _ _ _).symm,Nat.zero_le _⟩,rfl⟩
  simp only [go_sem]
 ·intro x e h ⟨hs,hx,hf,hh⟩
  generalize foldC (ρ:=List Int × Nat) _ _ _ _ _=s at *
  subst hx hh
  have hI0:dsI w s:=by
   refine ⟨⟨by rw [hf.1,hN]; simp [ds0,hN],by rw [hN]; exact hf.2⟩,fun x hx=>?_⟩
   rw [hf.1,ds0,List.mem_map] at hx
   obtain ⟨m,_,rfl⟩:=hx
   split <;> omega
  have hroot:distL w R=((List.range N).foldl (fun s _=>dsRound w s) s).1:=by
   rw [fold_fst (fun s _=>dsRound w s) (fun D _=>dsRoundL w D) (fun s _=>dsRound_fst w s),hf.1,distL,hN]
  rw [hroot]
  obtain ⟨⟨hI1,hI2⟩,_⟩:=id hI0
  rw [hN] at hI1 hI2
  have hl0:((s.1.map I).map AV.t).length=N:=by simp [hI1]
  have hfc:(AV.fn (.func 123) [] [.ref 1 1 0 0]).cells=[AV.fn (.func 123) [] [.ref 1 1 0 0]]:=rfl
  have hfs:storableAll [AV.fn (.func 123) [] [.ref 1 1 0 0]]=true:=rfl
  (repeat' first|simp only [il89c,go_sem,hs,hfc,hfs]|(with_reducible first|apply wD|apply wT|(apply wM; intro)|(apply wL; intro))|((with_reducible first|refine wA ?_ ?_|refine wE ?_); rfl))
  refine loop_range (List.replicate N ()) (fun _=>I 0) (step:=fun n _ (s:List Int × Nat)=>.go (dsRound w s)) (fin:=id)
   (St:=fun n s e h=>(e 2=.t (.ip (nwC f w))∧e 5=.ref 1 1 0 0∧e 7=.ref 2 1 0 0∧e 33=.t (I (N:Nat))∧e 34=.t (I (n:Nat)))∧dsI w s∧h=[.row 1 ((s.1.map I).map .t) s.2,.row 1 [.ms 0 N 0 N 1 true] 1,.row 1 [.fn (.func 123) [] [.ref 1 1 0 0]] 1])
   (Ex:=fun s x e h=>(e 5=.ref 1 1 0 0)∧x=.exit 2∧dsI w s∧h=[.row 1 ((s.1.map I).map .t) s.2,.row 1 [.ms 0 N 0 N 1 true] 1,.row 1 [.fn (.func 123) [] [.ref 1 1 0 0]] 1]) (s:=s) (by rw [List.length_replicate]; omega) ?_ ?_ (by rw [List.length_replicate]; omega) ?_ ?_
  ·intro n _ s e h Y R' hm hi _ _ hlt hw ⟨hs,hI,hh⟩ hk
   subst hh
   simp only [List.length_replicate] at hi hlt
   simp only [ctlK_go] at hk
   have hI2:=dsRound_ok hok hI
   have ku:=up_ans f w
   rw [il89l1_go]
   simp only [il89l1b]
   generalize hrf:rfOf Tryz.prog 89 0=rf
   (repeat' first|simp only [List.cons_append,List.nil_append,go_sem,hs,hlt,hw,ku]|(with_reducible first|apply wD|apply wT|(apply wM; intro)|(apply wL; intro))|((with_reducible first|refine wA ?_ ?_|refine wE ?_); rfl))
   have hff:∀ hx:Heap,frzObj hx (fromB 3) (.row 1 [.fn (.func 123) [] [.ref 1 1 0 0]] 1)=some (.row 1 [.fn (.func 123) [] [.ref 1 1 0 0]] 1):=fun hx=>frz_rowA (by simp [avoidAll,avoid,fromB])
   have key:∀ E:FEnv,([.row 1 ((s.1.map I).map .t) s.2,.row 1 [.ms 0 N 0 N 1 true] 1,.row 1 [.fn (.func 123) [] [.ref 1 1 0 0]] 1,.loop 89 (lpEnv 57 (tidyF (some [7]) E)) [38] rf.1 rf.2 false none]:Heap)=hpDs N rf E s:=fun E=>rfl
   rw [key]
   have h34:3 < 4:=by omega
   let σ:={ s:List Int × Nat // dsI w s }
   let nx:σ→Nat→σ:=fun s n=>if h:n < w.t.links.length then ⟨dsS w s.1 n,dsS_ok hok h s.2⟩ else s
   have hnxv:∀ (s:σ) n,n < w.t.links.length→(nx s n).1=dsS w s.1 n:=fun s n h=>by simp only [nx]; rw [dif_pos h]
   have hfv:∀ (s:σ) k,k≤w.t.links.length→((List.range k).foldl (upS w nx) s).1=(List.range k).foldl (upS w (dsS w)) s.1:=by
    intro s k
    induction k with
    | zero=>intro _; rfl
    | succ k ih =>
     intro hk
     rw [List.range_succ,List.foldl_append,List.foldl_append,List.foldl_cons,List.foldl_cons,List.foldl_nil,List.foldl_nil,← ih (by omega)]
     unfold upS
     split
     ·exact hnxv _ _ (by omega)
     ·rfl
   have hs0:∀ E:FEnv,hpDs N rf E s=(fun s:σ=>hpDs N rf E s.1) ⟨s,hI⟩:=fun E=>rfl
   rw [hs0]
   with_reducible refine @up_iter σ (fun s:σ=>hpDs N rf _ s.1) 4 (fun s=>rfl) nx 5 nn 3 w ?_ h34 f hok hdl ?_ ⟨s,hI⟩ _ hn2 ?_
   ·intro s h q hq
    exact hpDs_frz N rf _ (by simp only [go_sem,hs]) s.1 h q hq
   ·intro s i Q hi _ hQ
    have hQ':∀ X',Q (.t (B true)) (hpDs N rf _ (nx s i).1++[.row 4 [.t (lkT (lnk w.t i))] 1]++X'):=hQ
    rw [hnxv s i hi] at hQ'
    have hy:=fun E hE=>@dist_yield rf hrf w hok E hE s.1 s.2 i hi 3 nn hn2 Q
    rw [hN] at hy
    with_reducible exact hy _ (by simp only [go_sem,hs]) hQ'
   ·intro v
    change rfEnd _ _ _ v (hpDs N rf _ ((List.range w.t.links.length).foldl (upS w nx) ⟨s,hI⟩).1)
    rw [hfv _ _ (Nat.le_refl _)]
    have hrr:dsRound w s=(List.range w.t.links.length).foldl (upS w (dsS w)) s:=rfl
    rw [← hrr]
    generalize dsRound w s=s3 at *
    simp only [hpDs,lpDs,List.cons_append,List.nil_append]
    (repeat' first|simp only [List.cons_append,List.nil_append,go_sem,frz_mapA,hff,hs,hw]|(with_reducible first|apply wD|apply wT|(apply wM; intro)|(apply wL; intro))|((with_reducible first|refine wA ?_ ?_|refine wE ?_); rfl))
    all_goals (refine hk _ _ ⟨?_,hI2,rfl⟩; simp only [go_sem,hs,hw])
  ·intro s e h Y R' hlt ⟨hs,hI,hh⟩ hk
   subst hh
   simp only [List.length_replicate] at hlt hs
   (repeat' first|simp only [il89l1_go,il89l1b,go_sem,hs,hlt]|(with_reducible first|apply wD|apply wT|(apply wM; intro)|(apply wL; intro))|((with_reducible first|refine wA ?_ ?_|refine wE ?_); rfl))
   all_goals (refine hk _ _ _ ⟨?_,rfl,hI,rfl⟩; simp only [go_sem,hs,id])
  ·refine ⟨?_,hI0,rfl⟩
   simp only [go_sem,hs]
  ·intro x e h ⟨hs,hx,hI,hh⟩
   have hfo:∀ (l:List Unit) (i:Nat) (s:List Int × Nat),foldC (ρ:=List Int × Nat) (fun n _ s=>Ctl.go (dsRound w s)) id i l s=(List.range' i l.length).foldl (fun s _=>dsRound w s) s:=by
    intro l
    induction l with
    | nil=>intro i s; rfl
    | cons x l ih =>
     intro i s
     rw [foldC_go (s':=dsRound w s) rfl,ih,List.length_cons,List.range'_succ,List.foldl_cons]
   rw [hfo,List.length_replicate,← List.range_eq_range'] at hI hh
   generalize (List.range N).foldl (fun s _=>dsRound w s) s=s2 at *
   subst hx hh
   obtain ⟨⟨hJ1,hJ2⟩,_⟩:=hI
   rw [hN] at hJ1 hJ2
   have hl2:((s2.1.map I).map AV.t).length=N:=by simp [hJ1]
   (repeat' first|simp only [il89c,go_sem,hs,hl2,hJ2]|(with_reducible first|apply wD|apply wT|(apply wM; intro)|(apply wL; intro))|((with_reducible first|refine wA ?_ ?_|refine wE ?_); rfl))
end Go.Proofs.YtbibdnlbpjnieaaGreat
namespace Go.Proofs.YtbibdnlbpjnieaaGreat
open Go Go.Abs
def offG (w:Nw) (D:List Int) (p:Nat) (x:Int):Hd:=⟨true,0,0,dA D (toP w.t p)+x,prA w (toP w.t p).toNat,toP w.t p,(bk p:Nat),0⟩
def ownG (w:Nw) (D:List Int) (n p:Nat):Hd:=⟨true,0,0,dA D (n:Nat),prA w n,(n:Nat),(p:Nat),0⟩
def goalG (w:Nw) (D:List Int) (bs:List Int) (n p:Nat):Int:=if (p:Int)=dA bs (n:Nat) then 1 else if lt6 (ownG w D n p) (offG w D p 0) < 0 then 2 else 3
abbrev gcap1 (f:Fl) (w:Nw) (c:Bool) (D:List Int):List T:=[.ip (nwC f w),.ip [.sl c 1 (D.map I)]]
section
variable (f:Fl) (w:Nw) (c:Bool) (D:List Int) (hok:okT w.t=true) (hpl:(w.prios.length:Int)=w.t.nodes) (hD:D.length=w.t.nodes.toNat) (hb:∀ x∈D,0≤x∧x≤12000)
include hok hpl hD hb
theorem goal1_ans (p:Nat) (x:Int) (hp:p < 2*w.t.links.length) (hx:0≤x∧x≤1000):ans Tryz.prog pol 90 ([I (p:Nat),I x]++gcap1 f w c D)=some (rkT (offG w D p x)):=by
 obtain ⟨z1,z2,z3⟩:=okT_size hok
 have k1:=other_ans f w p hok hp
 obtain ⟨m1,m2⟩:=toP_node hok hp
 have hda:=dA_bd hb (toP w.t p)
 simp only [offG]
 generalize hT:toP w.t p=t at *
 obtain ⟨t,rfl⟩:∃ m:Nat,t=(m:Nat):=⟨t.toNat,by omega⟩
 have k2:=id_ans f w t (by omega)
 have gd:(D.map I)[t]? = some (I (dA D (t:Nat))):=by simp [dA,show t < D.length by omega]
 have hDl:t < D.length:=by omega
 have v1:IntKind.i64.wrap (dA D (t:Nat)+x)=dA D (t:Nat)+x:=wrap_i64 (by omega) (by omega)
 have hxr:=xor1 p (by omega)
 have hc2:(T.sl c 1 (D.map I)).cells=[T.sl c 1 (D.map I)]:=rfl
 simp only [Int.toNat_natCast]
 simp only [List.cons_append,List.nil_append]
 refine ans_go 1 1 il90_eq (Nat.le_of_ble_eq_true rfl) ?_
 (repeat' first|simp only [il90c,go_sem,k1,k2,gd,hDl,v1,hxr,hc2]|(with_reducible first|apply wD|apply wT|(apply wM; intro)|(apply wL; intro))|((with_reducible first|refine wA ?_ ?_|refine wE ?_); rfl))
theorem goal2_ans (c':Bool) (bs:List Int) (hbs:bs.length=w.t.nodes.toNat) (n p:Nat) (hn:(n:Int) < w.t.nodes) (hp:p < 2*w.t.links.length) :
  ans Tryz.prog pol 92 [I (n:Nat),I (p:Nat),.ip [.sl c 1 (D.map I)],.ip (nwC f w),.ip [.sl c' 1 (bs.map I)],.ip [.fn (.func 90) [] (gcap1 f w c D)]]=some (I (goalG w D bs n p)):=by
 obtain ⟨z1,z2,z3⟩:=okT_size hok
 have k1:=id_ans f w n (by omega)
 have k2:=goal1_ans f w c D hok hpl hD hb p 0 hp (by omega)
 have k3:=compH_ans (ownG w D n p) (offG w D p 0)
 have gd:(D.map I)[n]? = some (I (dA D (n:Nat))):=by simp [dA,show n < D.length by omega]
 have gb:(bs.map I)[n]? = some (I (dA bs (n:Nat))):=by simp [dA,show n < bs.length by omega]
 have hDl:n < D.length:=by omega
 have hbl:n < bs.length:=by omega
 have hc2:(T.sl c 1 (D.map I)).cells=[T.sl c 1 (D.map I)]:=rfl
 have hc3:(T.sl c' 1 (bs.map I)).cells=[T.sl c' 1 (bs.map I)]:=rfl
 have hc4:(T.fn (.func 90) [] (gcap1 f w c D)).cells=[.fn (.func 90) [] (gcap1 f w c D)]:=rfl
 simp only [gcap1,List.cons_append,List.nil_append] at k2 hc4 ⊢
 unfold goalG
 by_cases q1:(p:Int)=dA bs (n:Nat)
 ·rw [if_pos q1]
  have d1:=decide_eq_true q1
  refine ans_go 1 1 il92_eq (Nat.le_of_ble_eq_true rfl) ?_
  (repeat' first|simp only [il92c,go_sem,k1,k2,gd,gb,hDl,hbl,hc2,hc3,hc4,d1]|(with_reducible first|apply wD|apply wT|(apply wM; intro)|(apply wL; intro))|((with_reducible first|refine wA ?_ ?_|refine wE ?_); rfl))
 ·rw [if_neg q1]
  have d1:=decide_eq_false q1
  by_cases q2:lt6 (ownG w D n p) (offG w D p 0) < 0
  ·rw [if_pos q2]
   simp only [ownG] at k3 q2
   have d2:=decide_eq_true q2
   refine ans_go 1 1 il92_eq (Nat.le_of_ble_eq_true rfl) ?_
   (repeat' first|simp only [il92c,go_sem,k1,k2,k3,gd,gb,hDl,hbl,hc2,hc3,hc4,d1,d2]|(with_reducible first|apply wD|apply wT|(apply wM; intro)|(apply wL; intro))|((with_reducible first|refine wA ?_ ?_|refine wE ?_); rfl))
  ·rw [if_neg q2]
   simp only [ownG] at k3 q2
   have d2:=decide_eq_false q2
   refine ans_go 1 1 il92_eq (Nat.le_of_ble_eq_true rfl) ?_
   (repeat' first|simp only [il92c,go_sem,k1,k2,k3,gd,gb,hDl,hbl,hc2,hc3,hc4,d1,d2]|(with_reducible first|apply wD|apply wT|(apply wM; intro)|(apply wL; intro))|((with_reducible first|refine wA ?_ ?_|refine wE ?_); rfl))
end
end Go.Proofs.YtbibdnlbpjnieaaGreat
namespace Go.Proofs.YtbibdnlbpjnieaaGreat
open Go Go.Abs
def glC (w:Nw) (p:Nat):Prop:=dnA w (p / 2)=true∨stA w.t (toP w.t p).toNat=true
instance (w:Nw) (p:Nat):Decidable (glC w p):=inferInstanceAs (Decidable (_∨_))
def glT (w:Nw) (D:List Int) (s:(Int × Hd) × Nat) (p:Nat):(Int × Hd) × Nat:=if glC w p then s else if s.1.1 < 0∨lt6 (offG w D p (perP w.t p)) s.1.2 < 0 then (((p:Int),offG w D p (perP w.t p)),1) else s
def glS (w:Nw) (D:List Int) (s:Int × Hd) (p:Nat):Int × Hd:=if glC w p then s else if s.1 < 0∨lt6 (offG w D p (perP w.t p)) s.2 < 0 then ((p:Int),offG w D p (perP w.t p)) else s
def bestN (w:Nw) (R:List (Int × Int)) (D:List Int) (n:Nat):Int:=if rA R (n:Nat)=(prA w n,((n:Nat):Int)) then -1 else ((portsL w.t n).foldl (glS w D) (-1,zH)).1
theorem glT_fst (w:Nw) (D:List Int) (s:(Int × Hd) × Nat) (p:Nat):(glT w D s p).1=glS w D s.1 p:=by
 unfold glT glS
 split
 ·rfl
 ·split <;> rfl
theorem glT_snd {w:Nw} {D:List Int} {s:(Int × Hd) × Nat} (h:s.2≤1) (p:Nat):(glT w D s p).2≤1:=by
 unfold glT
 split
 ·exact h
 ·split
  ·exact Nat.le_refl _
  ·exact h
section
variable (f:Fl) (w:Nw) (R:List (Int × Int)) (D:List Int)
noncomputable def lpGl (rf:Code × Code) (E:FEnv) (busy:Bool):AObj:=.loop 45 (lpEnv 94 (tidyF (some [1,3,5,6]) E)) [25,26] rf.1 rf.2 busy none
noncomputable def hpGl (f:Fl) (w:Nw) (R:List (Int × Int)) (D:List Int) (rf:Code × Code) (E:FEnv) (busy:Bool) (s:List Int × Nat):Heap :=
 [.row 1 [.t (.sl true 2 (R.map encP))] 1,.gone,.row 1 ((s.1.map I).map .t) s.2,.row 1 [.ms 2 w.t.nodes.toNat 0 w.t.nodes.toNat 1 true] 1,.row 1 [.t (.fn (.func 90) [] (gcap1 f w true D))] 1,lpGl rf E busy]
def glE (f:Fl) (w:Nw) (E:FEnv):Prop:=E 1=.t (.ip (nwC f w))∧E 3=.ref 0 1 0 0∧E 5=.ref 3 1 0 0∧E 6=.ref 4 1 0 0
theorem lpGl_frz (rf:Code × Code) (E:FEnv) (hE:glE f w E) (busy:Bool) (h:Heap) (q:Nat) (hq:6≤q):frzObj h (fromB q) (lpGl rf E busy)=some (lpGl rf E busy):=by
 obtain ⟨h1,h3,h5,h6⟩:=hE
 have f0:decide (q≤0)=false:=decide_eq_false (by omega)
 have f3:decide (q≤3)=false:=decide_eq_false (by omega)
 have f4:decide (q≤4)=false:=decide_eq_false (by omega)
 rw [lpGl,frz_loop]
 simp only [go_sem,h1,h3,h5,h6,f0,f3,f4]
theorem hpGl_frz (rf:Code × Code) (E:FEnv) (hE:glE f w E) (busy:Bool) (s:List Int × Nat) (h:Heap) (q:Nat) (hq:6≤q):mapO (frzObj h (fromB q)) (hpGl f w R D rf E busy s)=some (hpGl f w R D rf E busy s):=by
 have a1:avoidAll (fromB q) [.ms 2 w.t.nodes.toNat 0 w.t.nodes.toNat 1 true]=true:=by simp [avoidAll,avoid,fromB]; omega
 have a2:∀ x:T,avoidAll (fromB q) [.t x]=true:=fun x=>by simp [avoidAll,avoid]
 have a3:frzObj h (fromB q) .gone=some .gone:=rfl
 simp only [hpGl,mapO,lpGl_frz f w rf E hE busy h q hq,frz_mapA,frz_rowA a1,frz_rowA (a2 _),a3]
variable (hok:okT w.t=true) (hbl:(w.bs.length:Int)=w.t.nodes) (hpl:(w.prios.length:Int)=w.t.nodes) (hdl:w.down.length=w.t.links.length) (hD:D.length=w.t.nodes.toNat) (hb:∀ x∈D,0≤x∧x≤12000)
include hok hbl hpl hdl hD hb
theorem goal_l0 (rf:Code × Code) (E:FEnv) (hE:glE f w E) (x:List T) (n:Nat) (hn:n < w.bs.length)
  (L:List Int) (hL:L.length=w.t.nodes.toNat) (dd nn:Nat) (hnn':200 < nn) (Q:Xit→FEnv→Heap→Prop) (e:FEnv)
  (he:e 1=.t (.ip (nwC f w))∧e 5=.ref 3 1 0 0∧e 6=.ref 4 1 0 0∧e 7=.t (I (n:Nat))∧e 8=.ref 7 1 0 0∧e 40=.t (.sl false 1 (((portsL w.t n).map ofN).map I))∧e 41=.t (I ((portsL w.t n).length:Nat))∧e 42=.t (I 0))
  (hR:∀ e mr h,mr≤1→Q (.exit 2) e (hpGl f w R D rf E true (L.set n ((portsL w.t n).foldl (glS w D) (-1,zH)).1,w.t.nodes.toNat)++[.row 5 [.t (.agg x)] 1,.row 6 [.t (rkT h)] mr])) :
  wpIter 8 (some [1,5,6,7,8,40,41,42]) (wc Tryz.prog pol (ans Tryz.prog pol) (inl Tryz.prog pol (ans Tryz.prog pol) nn dd) nn 45 il45l0) Q nn e (hpGl f w R D rf E true (L.set n (-1),w.t.nodes.toNat)++[.row 5 [.t (.agg x)] 1,.row 6 [.t (rkT zH)] 0]):=by
 obtain ⟨z1,z2,z3⟩:=okT_size hok
 have hpl2:=ports_len w.t n
 refine loop_range (portsL w.t n) (fun p=>I (ofN p)) (step:=fun _ p s=>.go (glT w D s p)) (fin:=id)
  (St:=fun i s e h=>(e 1=.t (.ip (nwC f w))∧e 5=.ref 3 1 0 0∧e 6=.ref 4 1 0 0∧e 7=.t (I (n:Nat))∧e 8=.ref 7 1 0 0∧e 40=.t (.sl false 1 (((portsL w.t n).map ofN).map I))∧e 41=.t (I ((portsL w.t n).length:Nat))∧e 42=.t (I (i:Nat)))∧s.2≤1∧h=hpGl f w R D rf E true (L.set n s.1.1,w.t.nodes.toNat)++[.row 5 [.t (.agg x)] 1,.row 6 [.t (rkT s.1.2)] s.2])
  (Ex:=fun s x' e h=>x'=.exit 2∧s.2≤1∧h=hpGl f w R D rf E true (L.set n s.1.1,w.t.nodes.toNat)++[.row 5 [.t (.agg x)] 1,.row 6 [.t (rkT s.1.2)] s.2]) (s:=((-1,zH),0)) (by omega) ?_ ?_ (by omega) ⟨he,Nat.zero_le _,rfl⟩ ?_
 ·intro i p ss e hp Y R' hm hi hx hget hlt hw ⟨hs',hI,hhp⟩ hk
  subst hhp
  simp only [ctlK_go] at hk
  have hI2:=glT_snd (w:=w) (D:=D) hI p
  have hplt:p < 2*w.t.links.length:=ports_lt hm
  have hget':(((portsL w.t n).map ofN).map I)[i]? = some (I (ofN p)):=by simp [hx]
  have k2:=other_ans f w p hok hplt
  obtain ⟨g1,q1⟩:=st_get w.t z2 (toP_node hok hplt)
  have hj:p / 2 < w.down.length:=by omega
  have g2:(w.down.map B)[p / 2]? = some (B (dnA w (p / 2))):=by simp [dnA,hj]
  have v2:IntKind.i64.wrap (Int.tdiv (p:Nat) 2)=((p / 2:Nat):Int):=by rw [tdiv2]; exact wrap_i64 (by omega) (by omega)
  obtain ⟨⟨v,m⟩,mr⟩:=ss
  dsimp only at hI hI2 hk
  have hsl:(((L.set n v).map I).map AV.t).length=w.t.nodes.toNat:=by simp [hL]
  have gx:(((L.set n v).map I).map AV.t)[n]? = some (.t (I v)):=map_get (enc:=I) (List.getElem?_set_self (by omega))
  have hset:=map_set (enc:=I) (l:=L.set n v) (i:=n) (x:=(p:Int))
  rw [List.set_set] at hset
  have hnl:n < w.t.nodes.toNat:=by omega
  have hav:∀ (q:Nat→Bool) (y:T),avoidAll q ((((L.set n v).map I).map AV.t).set n (.t y))=true:=fun q y=>by rw [← List.map_set,av_map]
  have fzl:∀ hx:Heap,frzObj hx (fromB 8) (lpGl rf E true)=some (lpGl rf E true):=fun hx=>lpGl_frz f w rf E hE true hx 8 (by omega)
  have hper:=per_ok hok hplt
  have k3:=goal1_ans f w true D hok hpl hD hb p (perP w.t p) hplt (by omega)
  have glk:(w.t.links.map encK)[p / 2]? = some (lkT (lnk w.t (p / 2))):=by simp [lnk,encK,show p / 2 < w.t.links.length by omega]
  have hpp:(lnk w.t (p / 2)).per=perP w.t p:=rfl
  have k4:=compH_ans (offG w D p (perP w.t p)) m
  have hc4:(T.fn (.func 90) [] (gcap1 f w true D)).cells=[.fn (.func 90) [] (gcap1 f w true D)]:=rfl
  simp only [gcap1,List.cons_append,List.nil_append] at k3 hc4
  simp only [glT,hpGl,gcap1,List.cons_append,List.nil_append] at hk hI2 ⊢
  cases hdn:dnA w (p / 2) with
  | true =>
   rw [hdn] at g2
   rw [if_pos (show glC w p from .inl hdn)] at hk hI2
   (repeat' first|simp only [il45l0_go,il45l0b,go_sem,hs',hget',hlt,hw,ofN,v2,g2,frz_mapA,fzl]|(with_reducible first|apply wD|apply wT|(apply wM; intro)|(apply wL; intro))|((with_reducible first|refine wA ?_ ?_|refine wE ?_); rfl))
   all_goals (refine hk _ _ ⟨?_,hI2,?_⟩ <;> simp only [go_sem,hs',hw])
  | false =>
   rw [hdn] at g2
   cases hst:stA w.t (toP w.t p).toNat with
   | true =>
    rw [hst] at g1
    rw [if_pos (show glC w p from .inr hst)] at hk hI2
    (repeat' first|simp only [il45l0_go,il45l0b,go_sem,hs',hget',hlt,hw,ofN,v2,g1,g2,q1,k2,frz_mapA,fzl]|(with_reducible first|apply wD|apply wT|(apply wM; intro)|(apply wL; intro))|((with_reducible first|refine wA ?_ ?_|refine wE ?_); rfl))
    all_goals (refine hk _ _ ⟨?_,hI2,?_⟩ <;> simp only [go_sem,hs',hw])
   | false =>
    rw [hst] at g1
    rw [if_neg (show ¬ glC w p by simp [glC,hdn,hst])] at hk hI2
    generalize hoff:offG w D p (perP w.t p)=o at *
    by_cases hv:v < 0
    ·have d1:=decide_eq_true hv
     rw [if_pos (.inl hv)] at hk hI2
     rw [← hset] at hk
     (repeat' first|simp only [il45l0_go,il45l0b,go_sem,hs',hget',hlt,hw,ofN,v2,g1,g2,q1,k2,k3,glk,hpp,hc4,gx,hsl,hnl,hav,d1,hI,frz_mapA,fzl]|(with_reducible first|apply wD|apply wT|(apply wM; intro)|(apply wL; intro))|((with_reducible first|refine wA ?_ ?_|refine wE ?_); rfl))
     all_goals (refine hk _ _ ⟨?_,hI2,?_⟩ <;> simp only [go_sem,hs',hw])
    ·have d1:=decide_eq_false hv
     by_cases hc:lt6 o m < 0
     ·have d2:=decide_eq_true hc
      rw [if_pos (.inr hc)] at hk hI2
      rw [← hset] at hk
      (repeat' first|simp only [il45l0_go,il45l0b,go_sem,hs',hget',hlt,hw,ofN,v2,g1,g2,q1,k2,k3,k4,glk,hpp,hc4,gx,hsl,hnl,hav,d1,d2,hI,frz_mapA,fzl]|(with_reducible first|apply wD|apply wT|(apply wM; intro)|(apply wL; intro))|((with_reducible first|refine wA ?_ ?_|refine wE ?_); rfl))
      all_goals (refine hk _ _ ⟨?_,hI2,?_⟩ <;> simp only [go_sem,hs',hw])
     ·have d2:=decide_eq_false hc
      rw [if_neg (by rintro (h|h); exact hv h; exact hc h)] at hk hI2
      (repeat' first|simp only [il45l0_go,il45l0b,go_sem,hs',hget',hlt,hw,ofN,v2,g1,g2,q1,k2,k3,k4,glk,hpp,hc4,gx,hsl,hnl,hav,d1,d2,hI,frz_mapA,fzl]|(with_reducible first|apply wD|apply wT|(apply wM; intro)|(apply wL; intro))|((with_reducible first|refine wA ?_ ?_|refine wE ?_); rfl))
      all_goals (refine hk _ _ ⟨?_,hI2,?_⟩ <;> simp only [go_sem,hs',hw])
 ·intro s e h Y R' hlt ⟨hs',hI,hh⟩ hk
  subst hh
  (repeat' first|simp only [il45l0_go,il45l0b,go_sem,hs',hlt]|(with_reducible first|apply wD|apply wT|(apply wM; intro)|(apply wL; intro))|((with_reducible first|refine wA ?_ ?_|refine wE ?_); rfl))
  all_goals (refine hk _ _ _ ⟨rfl,hI,rfl⟩)
 ·intro x e h ⟨h2,h1,h3⟩
  have hf:∀ (l:List Nat) (i:Nat) (s:(Int × Hd) × Nat),foldC (ρ:=(Int × Hd) × Nat) (fun _ p s=>Ctl.go (glT w D s p)) id i l s=l.foldl (glT w D) s:=by
   intro l
   induction l with
   | nil=>intro i s; rfl
   | cons x l ih =>
    intro i s
    rw [foldC_go (s':=glT w D s x) rfl,ih,List.foldl_cons]
  rw [hf] at h1 h3
  rw [fold_fst (glT w D) (glS w D) (glT_fst w D)] at h3
  subst h2 h3
  exact hR _ _ _ h1
end
end Go.Proofs.YtbibdnlbpjnieaaGreat
namespace Go.Proofs.YtbibdnlbpjnieaaGreat
open Go Go.Abs
theorem goal_yield (f:Fl) (w:Nw) (R:List (Int × Int)) (D:List Int) (hok:okT w.t=true) (hbl:(w.bs.length:Int)=w.t.nodes) (hpl:(w.prios.length:Int)=w.t.nodes) (hdl:w.down.length=w.t.links.length) (hD:D.length=w.t.nodes.toNat) (hb:∀ x∈D,0≤x∧x≤12000) (hRl:R.length=w.t.nodes.toNat)
  (rf:Code × Code) (hrf:rfOf Tryz.prog 45 0=rf) (E:FEnv) (hE:glE f w E) (s:List Int × Nat) (hs:s.1.length=w.t.nodes.toNat∧s.2≤w.t.nodes.toNat) (n:Nat) (x:List T) (hn:n < w.bs.length) (dd nn:Nat) (hnn:200 < nn) (Q:AV→Heap→Prop)
  (hQ:∀ X',Q (.t (B true)) (hpGl f w R D rf E false (s.1.set n (bestN w R D n),w.t.nodes.toNat)++[.row 5 [.t (.agg x)] 1]++X')) :
  oB (inl Tryz.prog pol (ans Tryz.prog pol) nn (dd+1) (.yl 5) [.t (I (n:Nat)),.t (.agg x)] (hpGl f w R D rf E false s++[.row 5 [.t (.agg x)] 1])) Q:=by
 subst hrf
 obtain ⟨E1,E3,E5,E6⟩:=id hE
 obtain ⟨z1,z2,z3⟩:=okT_size hok
 have k1:=nports_ans f w n hok (by omega)
 have k2:=id_ans f w n (by omega)
 obtain ⟨L,mr⟩:=s
 obtain ⟨hL,hmr⟩:=hs
 dsimp only at hL hmr hQ ⊢
 have hnl:n < w.t.nodes.toNat:=by omega
 have hsl:((L.map I).map AV.t).length=w.t.nodes.toNat:=by simp [hL]
 obtain ⟨y,hy⟩:∃ y,L[n]? = some y:=⟨L[n]'(by omega),by simp [show n < L.length by omega]⟩
 have gx:((L.map I).map AV.t)[n]? = some (.t (I y)):=map_get (enc:=I) hy
 have hset:=map_set (enc:=I) (l:=L) (i:=n) (x:=(-1:Int))
 have hav:∀ (q:Nat→Bool) (y:T),avoidAll q (((L.map I).map AV.t).set n (.t y))=true:=fun q y=>by rw [← List.map_set,av_map]
 obtain ⟨z,hz⟩:∃ z,R[n]? = some z:=⟨R[n]'(by omega),by simp [show n < R.length by omega]⟩
 have hra:rA R ((n:Nat):Int)=z:=by simp [rA,hz]
 have gR:(R.map encP)[n]? = some (.agg [I z.1,I z.2]):=by simp [hz,encP]
 have hRn:n < R.length:=by omega
 have hcz:(T.agg [I z.1,I z.2]).cells=[I z.1,I z.2]:=rfl
 have hcR:(T.sl true 2 (R.map encP)).cells=[T.sl true 2 (R.map encP)]:=rfl
 have hlen2:((portsL w.t n).map ofN).length=(portsL w.t n).length:=by simp
 have hbest:bestN w R D n=if z=(prA w n,((n:Nat):Int)) then -1 else ((portsL w.t n).foldl (glS w D) (-1,zH)).1:=by rw [bestN,hra]
 rw [hbest] at hQ
 have hR:=fun (Q:Xit→FEnv→Heap→Prop) (e:FEnv) he hR=>goal_l0 f w R D hok hbl hpl hdl hD hb (rfOf Tryz.prog 45 0) E hE x n hn L hL dd nn hnn Q e he hR
 have hlb:∀ s:List Int × Nat,hpGl f w R D (rfOf Tryz.prog 45 0) E false s=[.row 1 [.t (.sl true 2 (R.map encP))] 1,.gone,.row 1 ((s.1.map I).map .t) s.2,.row 1 [.ms 2 w.t.nodes.toNat 0 w.t.nodes.toNat 1 true] 1,.row 1 [.t (.fn (.func 90) [] (gcap1 f w true D))] 1,.loop 45 (lpEnv 94 (tidyF (some [1,3,5,6]) E)) [25,26] (rfOf Tryz.prog 45 0).1 (rfOf Tryz.prog 45 0).2 false none]:=fun s=>rfl
 have hlt:∀ s:List Int × Nat,hpGl f w R D (rfOf Tryz.prog 45 0) E true s=[.row 1 [.t (.sl true 2 (R.map encP))] 1,.gone,.row 1 ((s.1.map I).map .t) s.2,.row 1 [.ms 2 w.t.nodes.toNat 0 w.t.nodes.toNat 1 true] 1,.row 1 [.t (.fn (.func 90) [] (gcap1 f w true D))] 1,.loop 45 (lpEnv 94 (tidyF (some [1,3,5,6]) E)) [25,26] (rfOf Tryz.prog 45 0).1 (rfOf Tryz.prog 45 0).2 true none]:=fun s=>rfl
 simp only [hlb,hlt,zH,gcap1,List.cons_append,List.nil_append] at hR hQ ⊢
 rw [← hset] at hR
 by_cases hq:z.1=prA w n∧z.2=((n:Nat):Int)
 ·have d1:=decide_eq_true hq
  rw [if_pos (Prod.ext hq.1 hq.2),← hset] at hQ
  with_reducible refine oB_yl (E:=tidyF (some [1,3,5,6]) E) rfl rfl rfl il45r0a_eq il45r0b_eq ?_
  (repeat' first|simp only [il45r0a,il45r0b,go_sem,E1,E3,E5,E6,k2,gx,hsl,hnl,hmr,hav,gR,hRn,hcz,hcR,d1]|(with_reducible first|apply wD|apply wT|(apply wM; intro)|(apply wL; intro))|((with_reducible first|refine wA ?_ ?_|refine wE ?_); rfl))
  all_goals exact hQ _
 ·have d1:=decide_eq_false hq
  rw [if_neg (fun h=>hq (by rw [h]; exact ⟨rfl,rfl⟩))] at hQ
  generalize ((portsL w.t n).foldl (glS w D) (-1,zH)).1=V at *
  with_reducible refine oB_yl (E:=tidyF (some [1,3,5,6]) E) rfl rfl rfl il45r0a_eq il45r0b_eq ?_
  (repeat' first|simp only [il45r0a,il45r0b,go_sem,E1,E3,E5,E6,k1,k2,gx,hsl,hnl,hmr,hav,gR,hRn,hcz,hcR,d1,hlen2]|(with_reducible first|apply wD|apply wT|(apply wM; intro)|(apply wL; intro))|((with_reducible first|refine wA ?_ ?_|refine wE ?_); rfl))
  with_reducible refine hR _ _ ?_ ?_
  ·simp only [go_sem,E1,E3,E5,E6,hlen2]
  intro e mr h hmr2
  all_goals exact hQ _
end Go.Proofs.YtbibdnlbpjnieaaGreat
