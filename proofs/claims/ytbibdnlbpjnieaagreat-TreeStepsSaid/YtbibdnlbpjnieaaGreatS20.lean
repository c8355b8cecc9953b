/- Part 20 of the proof of TreeSteps. -/
import Derived.Test.YtbibdnlbpjnieaaGreatS19
set_option linter.all false
set_option maxRecDepth 100000
set_option maxHeartbeats 4000000
namespace Go.Proofs.YtbibdnlbpjnieaaGreat
open Go Go.Abs
theorem qh7 (n:Nat):ans Tryz.prog pol 81 [.sc (.slice none 0 0),I (n:Nat)]=some (B false):=by
 refine q00 10 1 il81_eq (Nat.le_of_ble_eq_true rfl) ?_
 (repeat' first|simp only [il81c,go_sem]|with_reducible refine wX fun _=>?_|((with_reducible refine wY ?_ ?_); rfl)|((with_reducible refine q0x (body:=wc _ _ _ _ _ _ il81l0) ?_ ?_); exact Nat.le_of_ble_eq_true rfl; simp only [il81l0_go,il81l0b])|fail)
theorem q6h {l:List Bool} {n:Nat} (h:l[n]? = some true):l.set n true=l:=by
 refine List.ext_getElem? (fun m=>?_)
 by_cases e:n=m
 ·subst e; rw [List.getElem?_set_self (List.getElem?_eq_some_iff.1 h).1,h]
 ·rw [List.getElem?_set_ne e]
theorem qh8 {i:Nat} {r:List Bool} {l:Lk} (ha:l.a.toNat < r.length) (hb:l.b.toNat < r.length) :
  rStep (fun _=>false) i r l=if (rB r l.a || rB r l.b)=true then (r.set l.a.toNat true).set l.b.toNat true else r:=by
 unfold rStep
 cases h1:rB r l.a <;> cases h2:rB r l.b
 ·rfl
 ·rfl
 ·rfl
 ·simp only [Bool.not_false,Bool.true_and,bne_self_eq_false,Bool.false_eq_true,if_false,Bool.or_self,if_true]
  have e1:r[l.a.toNat]? = some true:=by rw [rB,List.getElem?_eq_getElem ha] at h1; rw [List.getElem?_eq_getElem ha]; exact congrArg some h1
  have e2:r[l.b.toNat]? = some true:=by rw [rB,List.getElem?_eq_getElem hb] at h2; rw [List.getElem?_eq_getElem hb]; exact congrArg some h2
  rw [q6h e1,q6h e2]
theorem qh9 (t:Tpo) (hv:∀ l∈t.links,endsP t l) (hb:t.links.length≤24) (c1 c2:Bool) (N:Nat) (hN:(N:Int)=t.nodes) (x8:T) (r:List Bool) (hr:r.length=N) (mr:Nat) (hmr:mr≤N)
  (J:Inl) (nn:Nat) (hn:100 < nn) (R:Xit→FEnv→Heap→Prop) (e:FEnv)
  (he:e 2=.t (.sc (.slice none 0 0))∧e 3=.t (.ip (tpC c1 c2 t))∧e 7=.ms 0 N 0 N 1 true∧e 8=.t x8∧e 9=.t (I 0))
  (hR:∀ e mr,mr≤N→(e 2=.t (.sc (.slice none 0 0))∧e 3=.t (.ip (tpC c1 c2 t))∧e 7=.ms 0 N 0 N 1 true∧e 8=.t x8)→R (.exit 2) e [.row 1 (((rRound (fun _=>false) 0 t.links r).map B).map .t) mr]) :
  wpIter 1 (some [2,3,7,8,9]) (wc Tryz.prog pol (ans Tryz.prog pol) J nn 37 il37l0) R nn e [.row 1 ((r.map B).map .t) mr]:=by
 have hst:∀ (r:List Bool) (n:Nat),(((r.map B).map AV.t).set n (.t (B true)))=((r.set n true).map B).map .t:=fun r n=>map_set (enc:=B)
 refine q04 t.links encK (step:=fun i l r=>.go (rStep (fun _=>false) i r l)) (fin:=id)
  (St:=fun i r e h=>(e 2=.t (.sc (.slice none 0 0))∧e 3=.t (.ip (tpC c1 c2 t))∧e 7=.ms 0 N 0 N 1 true∧e 8=.t x8∧e 9=.t (I (i:Nat)))∧r.length=N∧∃ mr,mr≤N∧h=[.row 1 ((r.map B).map .t) mr])
  (Ex:=fun r x e h=>(e 2=.t (.sc (.slice none 0 0))∧e 3=.t (.ip (tpC c1 c2 t))∧e 7=.ms 0 N 0 N 1 true∧e 8=.t x8)∧x=.exit 2∧∃ mr,mr≤N∧h=[.row 1 ((r.map B).map .t) mr]) (s:=r) (by omega) ?_ ?_ (by omega) ⟨he,hr,mr,hmr,rfl⟩ ?_
 ·intro i l r e h Y R hm hi hx hget hlt hw ⟨hs,hr,mr,hmr,hh⟩ hk
  subst hh
  simp only [q01] at hk
  obtain ⟨p1,p2,p3⟩:=hv l hm
  have q1:0≤l.a:=p1.1
  have q2:0≤l.b:=p2.1
  have q3:l.a.toNat < N:=by omega
  have q4:l.b.toNat < N:=by omega
  have k1:=qh7 i
  have gx:(t.links.map encK)[i]? = some (lkT l):=hget
  have g1:=q1s (r:=r) (n:=l.a) (by omega)
  have g2:=q1s (r:=r) (n:=l.b) (by omega)
  rw [qh8 (by omega) (by omega)] at hk
  have hl1:(r.set l.a.toNat true).length=N:=by simpa using hr
  have hl2:((r.set l.a.toNat true).set l.b.toNat true).length=N:=by simpa using hr
  have s1:=hst r l.a.toNat
  have s2:=hst (r.set l.a.toNat true) l.b.toNat
  have g3:=q1s (r:=r.set l.a.toNat true) (n:=l.b) (by rw [hl1]; exact q4)
  generalize rB (r.set l.a.toNat true) l.b=z at *
  generalize r.set l.a.toNat true=r1 at *
  generalize r1.set l.b.toNat true=r2 at *
  generalize rB r l.a=a at *
  generalize rB r l.b=b at *
  cases a with
  | true =>
   simp only [Bool.true_or,if_true] at hk
   (repeat' first|simp only [il37l0_go,il37l0b,go_sem,hs,gx,hlt,hw,k1,q1,q2,q3,q4,g1,g2,g3,s1,s2,hr,hl1,hl2,hmr]|with_reducible refine wX fun _=>?_|((with_reducible refine wY ?_ ?_); rfl)|fail)
   all_goals (refine hk _ _ ⟨?_,hl2,N,Nat.le_refl _,?_⟩ <;> simp only [go_sem,hs,hw])
  | false =>
   cases b with
   | true =>
    simp only [Bool.false_or,if_true] at hk
    (repeat' first|simp only [il37l0_go,il37l0b,go_sem,hs,gx,hlt,hw,k1,q1,q2,q3,q4,g1,g2,g3,s1,s2,hr,hl1,hl2,hmr]|with_reducible refine wX fun _=>?_|((with_reducible refine wY ?_ ?_); rfl)|fail)
    all_goals (refine hk _ _ ⟨?_,hl2,N,Nat.le_refl _,?_⟩ <;> simp only [go_sem,hs,hw])
   | false =>
    simp only [Bool.or_self,Bool.false_eq_true,if_false] at hk
    (repeat' first|simp only [il37l0_go,il37l0b,go_sem,hs,gx,hlt,hw,k1,q1,q2,q3,q4,g1,g2,hr,hmr]|with_reducible refine wX fun _=>?_|((with_reducible refine wY ?_ ?_); rfl)|fail)
    all_goals (refine hk _ _ ⟨?_,hr,mr,hmr,?_⟩ <;> simp only [go_sem,hs,hw])
 ·intro r e h Y R hlt ⟨hs,hr,mr,hmr,hh⟩ hk
  subst hh
  (repeat' first|simp only [il37l0_go,il37l0b,go_sem,hs,hlt]|with_reducible refine wX fun _=>?_|((with_reducible refine wY ?_ ?_); rfl)|fail)
  all_goals (refine hk _ _ _ ⟨?_,rfl,mr,hmr,rfl⟩; simp only [go_sem,hs,id])
 ·intro x e h ⟨h1,h2,mr,hmr,h3⟩
  subst h2 h3
  have hf:∀ (ls:List Lk) (i:Nat) (r:List Bool),foldC (ρ:=List Bool) (fun i l r=>Ctl.go (rStep (fun _=>false) i r l)) id i ls r=rRound (fun _=>false) i ls r:=by
   intro ls
   induction ls with
   | nil=>intro i r; rfl
   | cons l ls ih=>intro i r; rw [q0a (s':=rStep (fun _=>false) i r l) rfl,ih]; rfl
  rw [hf] at *
  exact hR _ mr hmr h1
theorem qha (c1 c2:Bool) (t:Tpo) (hv:∀ l∈t.links,endsP t l) (hb:t.links.length≤24) (hn:0≤t.nodes∧t.nodes≤100) (s:Nat) (hs:(s:Int) < t.nodes) :
  ans Tryz.prog pol 37 [tpT c1 c2 t,I (s:Nat),.sc (.slice none 0 0)]=some (.sl true 1 ((reachL t s (fun _=>false)).map B)):=by
 obtain ⟨nodes,station,links⟩:=t
 dsimp only at hv hb hn hs
 obtain ⟨N,rfl⟩:∃ N:Nat,nodes=(N:Int):=⟨nodes.toNat,by omega⟩
 have hNn:((N:Nat):Int).toNat=N:=by omega
 have hsN:s < N:=by omega
 have hroom:1*N≤roomB:=by rw [Nat.mul_comm]; exact q07 (by omega) (by omega)
 have hbig:N≤9223372036854775807:=by omega
 have hlen:=q2l ⟨N,station,links⟩ s (fun _=>false)
 dsimp only at hlen
 rw [hNn] at hlen
 simp only [reachL,hNn] at hlen ⊢
 have hset:=map_set (enc:=B) (l:=List.replicate N false) (i:=s) (x:=true)
 simp only [List.map_replicate] at hset
 have hs0:((List.replicate N (AV.t (B false))))[s]? = some (.t (B false)):=by simp [hsN]
 have hl0:((List.replicate N false).set s true).length=N:=by simp
 generalize hr0:(List.replicate N false).set s true=r0 at *
 clear hr0
 refine q00 1000 1 il37_eq (Nat.le_of_ble_eq_true rfl) ?_
 (repeat' first|simp only [il37c,go_sem,hroom,hbig,hsN,hs0,hset,List.length_replicate]|with_reducible refine wX fun _=>?_|((with_reducible refine wY ?_ ?_); rfl)|fail)
 refine q0D N (step:=fun i r=>.go (rRound (fun _=>false) 0 links r)) (fin:=id)
  (St:=fun i r e h=>(e 2=.t (.sc (.slice none 0 0))∧e 3=.t (.ip (tpC c1 c2 ⟨N,station,links⟩))∧e 7=.ms 0 N 0 N 1 true∧e 8=.t (I (i:Nat)))∧r.length=N∧∃ mr,mr≤N∧h=[.row 1 ((r.map B).map .t) mr])
  (Ex:=fun r x e h=>e 7=.ms 0 N 0 N 1 true∧r.length=N∧x=.exit 0∧∃ mr,mr≤N∧h=[.row 1 ((r.map B).map .t) mr]) (s:=r0) (by omega) ?_ ?_ (by omega) ?_ ?_
 ·intro i r e h Y R hi hlt hw ⟨hs',hr,mr,hmr,hh⟩ hk
  subst hh
  simp only [q01] at hk
  (repeat' first|simp only [il37l1_go,il37l1b,go_sem,hs',hlt]|with_reducible refine wX fun _=>?_|((with_reducible refine wY ?_ ?_); rfl)|fail)
  refine qh9 ⟨N,station,links⟩ hv hb c1 c2 N rfl (I (i:Nat)) r hr mr hmr _ _ (by omega) _ _ (by simp only [go_sem,hs']) ?_
  intro e' mr' hmr' he'
  (repeat' first|simp only [il37l1_go,il37l1b,go_sem,he',hw]|with_reducible refine wX fun _=>?_|((with_reducible refine wY ?_ ?_); rfl)|fail)
  all_goals (refine hk _ _ ⟨?_,by rw [q3p]; exact hr,mr',hmr',rfl⟩; simp only [go_sem,he',hw])
 ·intro r e h Y R hlt ⟨hs',hr,mr,hmr,hh⟩ hk
  subst hh
  (repeat' first|simp only [il37l1_go,il37l1b,go_sem,hs',hlt]|with_reducible refine wX fun _=>?_|((with_reducible refine wY ?_ ?_); rfl)|fail)
  all_goals (refine hk _ _ _ ⟨?_,hr,rfl,mr,hmr,rfl⟩; simp only [go_sem,hs'])
 ·refine ⟨?_,hl0,N,Nat.le_refl _,rfl⟩
  simp only [go_sem]
 ·intro x e h ⟨h1,hr,h2,mr,hmr,h3⟩
  have hf:∀ (n i:Nat) (r:List Bool),foldC (ρ:=List Bool) (fun (_:Nat) (_:Unit) r=>Ctl.go (rRound (fun _=>false) 0 links r)) id i (List.replicate n ()) r=rIter (fun _=>false) links n r:=by
   intro n
   induction n with
   | zero=>intro i r; rfl
   | succ n ih=>intro i r; rw [List.replicate_succ,q0a (s':=rRound (fun _=>false) 0 links r) rfl,ih]; rfl
  rw [hf] at hr h3
  subst h2 h3
  (repeat' first|simp only [il37c,go_sem,h1,hr,hmr]|with_reducible refine wX fun _=>?_|((with_reducible refine wY ?_ ?_); rfl)|fail)
end Go.Proofs.YtbibdnlbpjnieaaGreat
namespace Go.Proofs.YtbibdnlbpjnieaaGreat
open Go Go.Abs
theorem qhb (l m:Lk):decide (m.a=l.a∧m.b=l.b∨m.a=l.b∧m.b=l.a)=joins l m:=by
 unfold joins
 refine decide_eq_decide.2 ⟨?_,?_⟩
 ·rintro (⟨h1,h2⟩|⟨h1,h2⟩)
  ·exact .inl ⟨h1.symm,h2.symm⟩
  ·exact .inr ⟨h2.symm,h1.symm⟩
 ·rintro (⟨h1,h2⟩|⟨h1,h2⟩)
  ·exact .inl ⟨h1.symm,h2.symm⟩
  ·exact .inr ⟨h2.symm,h1.symm⟩
theorem qhc {t:Tpo} {l:Lk}:∀ i,i≤t.links.length→lk3 t i l=(List.range i).all (fun k=>!joins l (lnk t k)):=by
 intro i
 induction i with
 | zero=>intro _; simp [lk3]
 | succ i ih =>
  intro hi
  have h1:=ih (by omega)
  unfold lk3 at h1 ⊢
  have e:t.links.take (i+1)=t.links.take i++[lnk t i]:=by
   rw [List.take_add_one]; simp [lnk,show i < t.links.length by omega]
  rw [e,List.all_append,h1,List.range_succ,List.all_append]
  rfl
theorem foldC_all {f:Nat→Bool}:∀ (n i:Nat),foldC (ρ:=Bool) (fun k (_:Unit) (_:Unit)=>if f k=true then Ctl.go () else Ctl.out false) (fun _=>true) i (List.replicate n ()) ()=(List.range' i n).all f:=by
 intro n
 induction n with
 | zero=>intro i; rfl
 | succ n ih =>
  intro i
  rw [List.replicate_succ,List.range'_succ,List.all_cons]
  by_cases h:f i=true
  ·rw [q0a (s':=()) (if_pos h),ih,h,Bool.true_and]
  ·rw [q0O (r:=false) (if_neg h)]
   have:f i=false:=by simpa using h
   rw [this,Bool.false_and]
theorem qhd (t:Tpo) (hb:t.links.length≤24) (c1 c2:Bool) (N:Nat) (i:Nat) (hi:i≤t.links.length) (l:Lk) (m:List Int) (mr:Nat)
  (J:Inl) (nn:Nat) (hn:100 < nn) (R:Xit→FEnv→Heap→Prop) (e:FEnv)
  (he:e 1=.t (.ip (tpC c1 c2 t))∧e 3=.ms 0 N 0 N 1 true∧e 4=.t (I (i:Nat))∧e 5=.ref 1 1 0 0∧e 6=.t (I 0))
  (hR1:lk3 t i l=true→∀ e,(e 1=.t (.ip (tpC c1 c2 t))∧e 3=.ms 0 N 0 N 1 true∧e 4=.t (I (i:Nat))∧e 5=.ref 1 1 0 0)→R (.exit 2) e [.row 1 ((m.map I).map .t) mr,.row 4 [.t (lkT l)] 1])
  (hR2:lk3 t i l=false→∀ e hh,e 2=.t (B false)→R .ret e hh) :
  wpIter 2 (some [1,3,4,5,6]) (wc Tryz.prog pol (ans Tryz.prog pol) J nn 9 il9l0) R nn e [.row 1 ((m.map I).map .t) mr,.row 4 [.t (lkT l)] 1]:=by
 refine q0D i (step:=fun k (_:Unit)=>if (!joins l (lnk t k))=true then Ctl.go () else Ctl.out false) (fin:=fun _=>true)
  (St:=fun k _ e h=>(e 1=.t (.ip (tpC c1 c2 t))∧e 3=.ms 0 N 0 N 1 true∧e 4=.t (I (i:Nat))∧e 5=.ref 1 1 0 0∧e 6=.t (I (k:Nat)))∧h=[.row 1 ((m.map I).map .t) mr,.row 4 [.t (lkT l)] 1])
  (Ex:=fun r x e h=>(r=true∧x=.exit 2∧(e 1=.t (.ip (tpC c1 c2 t))∧e 3=.ms 0 N 0 N 1 true∧e 4=.t (I (i:Nat))∧e 5=.ref 1 1 0 0)∧h=[.row 1 ((m.map I).map .t) mr,.row 4 [.t (lkT l)] 1])∨(r=false∧x=.ret∧e 2=.t (B false))) (s:=()) (by omega) ?_ ?_ (by omega) ⟨he,rfl⟩ ?_
 ·intro k _ e h Y R' hk1 hlt hw ⟨hs,hh⟩ hk
  subst hh
  have gx:(t.links.map encK)[k]? = some (lkT (lnk t k)):=by simp [lnk,show k < t.links.length by omega,encK]
  have k1:=qg2 (lnk t k) l.a l.b
  rw [qhb] at k1
  generalize joins l (lnk t k)=jb at *
  generalize lnk t k=x at *
  cases jb with
  | true =>
   rw [if_neg (by simp),q05] at hk
   (repeat' first|simp only [il9l0_go,il9l0b,go_sem,hs,gx,hlt,k1]|with_reducible refine wX fun _=>?_|((with_reducible refine wY ?_ ?_); rfl)|fail)
   all_goals (refine hk _ _ _ (.inr ⟨rfl,rfl,?_⟩); simp only [go_sem])
  | false =>
   rw [if_pos (by simp),q01] at hk
   (repeat' first|simp only [il9l0_go,il9l0b,go_sem,hs,gx,hlt,hw,k1]|with_reducible refine wX fun _=>?_|((with_reducible refine wY ?_ ?_); rfl)|fail)
   all_goals (refine hk _ _ ⟨?_,rfl⟩; simp only [go_sem,hs,hw])
 ·intro _ e h Y R' hlt ⟨hs,hh⟩ hk
  subst hh
  (repeat' first|simp only [il9l0_go,il9l0b,go_sem,hs,hlt]|with_reducible refine wX fun _=>?_|((with_reducible refine wY ?_ ?_); rfl)|fail)
  all_goals (refine hk _ _ _ (.inl ⟨rfl,rfl,?_,rfl⟩); simp only [go_sem,hs])
 ·intro x e h hx
  rw [foldC_all,← List.range_eq_range',← qhc i hi] at hx
  rcases hx with ⟨h1,rfl,h2,rfl⟩|⟨h1,rfl,h2⟩
  ·exact hR1 h1 _ h2
  ·exact hR2 h1 _ _ h2
def rgOk (t:Tpo) (i:Nat) (l:Lk):Bool:=lkR t l && lk3 t i l
theorem q6i (t:Tpo) (i:Nat) (l:Lk):rgOk t i l=lkOk t i l:=by
 unfold rgOk lkR lkOk
 cases lk1 t l <;> cases lk2 t l <;> cases lk3 t i l <;> cases lk4 l <;> rfl
theorem qhe {t:Tpo}:∀ (ls:List Lk) (i:Nat) (m:List Int),(∀ k,k < ls.length→ls[k]? = t.links[i+k]?)→foldC (ρ:=Option (List Int)) (fun i l m=>if rgOk t i l=true then Ctl.go (dStep m l) else Ctl.out none) some i ls m=if (List.range' i ls.length).all (fun k=>lkOk t k (lnk t k))=true then some (ls.foldl dStep m) else none:=by
 intro ls
 induction ls with
 | nil=>intro i m _; rfl
 | cons l ls ih =>
  intro i m h
  have h0:lnk t i=l:=by
   have:=h 0 (by simp)
   simp only [List.getElem?_cons_zero,Nat.add_zero] at this
   rw [lnk,← this]; rfl
  have ih:=ih (i+1) (dStep m l) (fun k hk=>by
   have:=h (k+1) (by simpa using hk)
   rw [List.getElem?_cons_succ] at this
   rw [this]; congr 1; omega)
  rw [List.length_cons,List.range'_succ,List.all_cons,h0,List.foldl_cons]
  by_cases q:rgOk t i l=true
  ·rw [q0a (s':=dStep m l) (if_pos q),ih]
   rw [q6i] at q
   rw [q,Bool.true_and]
  ·rw [q0O (r:=none) (if_neg q)]
   rw [q6i] at q
   have q:lkOk t i l=false:=by simpa using q
   rw [q,Bool.false_and]
   rfl
theorem qhf (t:Tpo) (hz:(t.station.length:Int)=t.nodes) (hb:t.links.length≤24) (c1 c2:Bool) (N:Nat) (hN:(N:Int)=t.nodes) (nn dd:Nat) (hn:100 < nn) (R:Xit→FEnv→Heap→Prop) (e:FEnv)
  (he:e 1=.t (.ip (tpC c1 c2 t))∧e 3=.ms 0 N 0 N 1 true∧e 4=.t (I 0))
  (hR1:soundL t=true→∀ e mr,mr≤N→(e 1=.t (.ip (tpC c1 c2 t))∧e 3=.ms 0 N 0 N 1 true)→R (.exit 0) e [.row 1 (((t.links.foldl dStep (List.replicate N 0)).map I).map .t) mr])
  (hR2:soundL t=false→∀ e hh,e 2=.t (B false)→R .ret e hh) :
  wpIter 1 (some [1,3,4]) (wc Tryz.prog pol (ans Tryz.prog pol) (inl Tryz.prog pol (ans Tryz.prog pol) nn dd) nn 9 il9l1) R nn e [.row 1 (((List.replicate N (0:Int)).map I).map .t) 0]:=by
 refine q04 t.links encK (step:=fun i l m=>if rgOk t i l=true then Ctl.go (dStep m l) else Ctl.out none) (fin:=some)
  (St:=fun i m e h=>(e 1=.t (.ip (tpC c1 c2 t))∧e 3=.ms 0 N 0 N 1 true∧e 4=.t (I (i:Nat)))∧m.length=N∧(∀ x∈m,0≤x∧x≤2*(i:Int))∧∃ mr,mr≤N∧h=[.row 1 ((m.map I).map .t) mr])
  (Ex:=fun r x e h=>(∃ m,r=some m∧x=.exit 0∧(e 1=.t (.ip (tpC c1 c2 t))∧e 3=.ms 0 N 0 N 1 true)∧∃ mr,mr≤N∧h=[.row 1 ((m.map I).map .t) mr])∨(r=none∧x=.ret∧e 2=.t (B false))) (s:=List.replicate N 0) (by omega) ?_ ?_ (by omega) ⟨he,by simp,fun x hx=>by have:=(List.mem_replicate.1 hx).2; omega,0,by omega,rfl⟩ ?_
 ·intro i l m e h Y R' hm hi hx hget hlt hw ⟨hs,hl,hbd,mr,hmr,hh⟩ hk
  subst hh
  have k1:=qg3 c1 c2 t l hz
  have gx:(t.links.map encK)[i]? = some (lkT l):=hget
  cases hlr:lkR t l with
  | false =>
   rw [hlr] at k1
   rw [if_neg (by simp [rgOk,hlr]),q05] at hk
   (repeat' first|simp only [il9l1_go,il9l1b,go_sem,hs,gx,hlt,k1,hmr]|with_reducible refine wX fun _=>?_|((with_reducible refine wY ?_ ?_); rfl)|fail)
   all_goals (refine hk _ _ _ (.inr ⟨rfl,rfl,?_⟩); simp only [go_sem])
  | true =>
   rw [hlr] at k1
   (repeat' first|simp only [il9l1_go,il9l1b,go_sem,hs,gx,hlt,k1,hmr]|with_reducible refine wX fun _=>?_|((with_reducible refine wY ?_ ?_); rfl)|fail)
   refine qhd t hb c1 c2 N i (by omega) l m mr _ _ hn _ _ (by simp only [go_sem,hs]) ?_ ?_
   ·intro h3 e1 he1
    rw [if_pos (by simp [rgOk,hlr,h3]),q01] at hk
    have hlk1:lk1 t l=true:=by simp only [lkR,Bool.and_eq_true] at hlr; exact hlr.1
    obtain ⟨p1,p2,p3⟩:=of_decide_eq_true hlk1
    have q1:0≤l.a:=p1.1
    have q2:0≤l.b:=p2.1
    have q3:l.a.toNat < N:=by have:=p1.2; omega
    have q4:l.b.toNat < N:=by have:=p2.2; omega
    have g1:=q1t (m:=m) (n:=l.a) (by omega)
    have b1:=iA_bd (n:=l.a) hbd (by omega)
    have s1:=map_set (enc:=I) (l:=m) (i:=l.a.toNat) (x:=iA m l.a+1)
    have bd1:=q2m (i:=l.a.toNat) (y:=iA m l.a+1) hbd (by omega)
    have w1:IntKind.i64.wrap (iA m l.a+1)=iA m l.a+1:=q09 (by omega) (by omega)
    have hl1:(m.set l.a.toNat (iA m l.a+1)).length=N:=by simpa using hl
    simp only [dStep] at hk
    generalize hm1:m.set l.a.toNat (iA m l.a+1)=m1 at *
    have g2:=q1t (m:=m1) (n:=l.b) (by omega)
    have b2:=iA_bd (n:=l.b) bd1 (by omega)
    have s2:=map_set (enc:=I) (l:=m1) (i:=l.b.toNat) (x:=iA m1 l.b+1)
    have bd2:=q2m (i:=l.b.toNat) (y:=iA m1 l.b+1) bd1 (by omega)
    have w2:IntKind.i64.wrap (iA m1 l.b+1)=iA m1 l.b+1:=q09 (by omega) (by omega)
    have hl2:(m1.set l.b.toNat (iA m1 l.b+1)).length=N:=by simpa using hl1
    generalize m1.set l.b.toNat (iA m1 l.b+1)=m2 at *
    generalize iA m1 l.b=z at *
    generalize iA m l.a=v at *
    (repeat' first|simp only [il9l1_go,il9l1b,go_sem,he1,hlt,hw,q1,q2,q3,q4,g1,s1,w1,g2,s2,w2,hl,hl1,hl2,hmr]|with_reducible refine wX fun _=>?_|((with_reducible refine wY ?_ ?_); rfl)|fail)
    all_goals (refine hk _ _ ⟨?_,hl2,fun x hx=>by have:=bd2 x hx; omega,N,Nat.le_refl _,?_⟩ <;> simp only [go_sem,he1,hw])
   ·intro h3 e1 hh he1
    rw [if_neg (by simp [rgOk,h3]),q05] at hk
    (repeat' first|simp only [il9l1_go,il9l1b,go_sem,he1]|with_reducible refine wX fun _=>?_|((with_reducible refine wY ?_ ?_); rfl)|fail)
    all_goals (refine hk _ _ _ (.inr ⟨rfl,rfl,?_⟩); simp only [go_sem,he1])
 ·intro m e h Y R' hlt ⟨hs,hl,hbd,mr,hmr,hh⟩ hk
  subst hh
  (repeat' first|simp only [il9l1_go,il9l1b,go_sem,hs,hlt]|with_reducible refine wX fun _=>?_|((with_reducible refine wY ?_ ?_); rfl)|fail)
  all_goals (refine hk _ _ _ (.inl ⟨m,rfl,rfl,?_,mr,hmr,rfl⟩); simp only [go_sem,hs])
 ·intro x e h hx
  rw [qhe t.links 0 _ (fun k _=>by rw [Nat.zero_add]),← List.range_eq_range'] at hx
  change (∃ m,(if soundL t=true then _ else _)=some m∧_)∨_ at hx
  rcases hx with ⟨m,h1,rfl,h2,mr,hmr,rfl⟩|⟨h1,rfl,h2⟩
  ·by_cases q:soundL t=true
   ·rw [if_pos q] at h1
    obtain rfl:=Option.some.inj h1
    exact hR1 q _ mr hmr h2
   ·rw [if_neg q] at h1; cases h1
  ·refine hR2 ?_ _ _ h2
   cases q:soundL t with
   | false=>rfl
   | true =>
    have h1:(if soundL t=true then some (t.links.foldl dStep (List.replicate N 0)) else none)=none:=h1
    rw [if_pos q] at h1; cases h1
def rgN (t:Tpo) (m:List Int) (rl:List Bool) (n:Nat):Bool:=rl[n]?.getD false && !(stA t n && (decide (iA m (n:Nat) < 1) || decide (2 < iA m (n:Nat))))
theorem qhg (t:Tpo) (hz:(t.station.length:Int)=t.nodes) (c1 c2:Bool) (N:Nat) (hN:(N:Int)=t.nodes) (h12:N≤12) (m:List Int) (hm:m.length=N) (rl:List Bool) (hrl:rl.length=N) (mr:Nat) (hmr:mr≤N) (J:Inl) (nn:Nat) (hn:100 < nn) (R:Xit→FEnv→Heap→Prop) (e:FEnv)
  (he:e 1=.t (.ip (tpC c1 c2 t))∧e 3=.ms 0 N 0 N 1 true∧e 7=.t (.sl true 1 (rl.map B))∧e 8=.t (I 0))
  (hR1:(List.range N).all (rgN t m rl)=true→∀ e hh,R (.exit 4) e hh)
  (hR2:(List.range N).all (rgN t m rl)=false→∀ e hh,e 2=.t (B false)→R .ret e hh) :
  wpIter 1 (some [1,3,7,8]) (wc Tryz.prog pol (ans Tryz.prog pol) J nn 9 il9l2) R nn e [.row 1 ((m.map I).map .t) mr]:=by
 refine q0D N (step:=fun n (_:Unit)=>if rgN t m rl n=true then Ctl.go () else Ctl.out false) (fin:=fun _=>true)
  (St:=fun n _ e h=>(e 1=.t (.ip (tpC c1 c2 t))∧e 3=.ms 0 N 0 N 1 true∧e 7=.t (.sl true 1 (rl.map B))∧e 8=.t (I (n:Nat)))∧h=[.row 1 ((m.map I).map .t) mr])
  (Ex:=fun r x e h=>(r=true∧x=.exit 4)∨(r=false∧x=.ret∧e 2=.t (B false))) (s:=()) (by omega) ?_ ?_ (by omega) ⟨he,rfl⟩ ?_
 ·intro n _ e h Y R' hi hlt hw ⟨hs,hh⟩ hk
  subst hh
  rw [hN] at hlt
  have gr:(rl.map B)[n]? = some (B (rl[n]?.getD false)):=by simp [show n < rl.length by omega]
  have gs:(t.station.map B)[n]? = some (B (stA t n)):=by simp [stA,show n < t.station.length by omega]
  have gm:=q1t (m:=m) (n:=(n:Nat)) (by omega)
  rw [Int.toNat_natCast] at gm
  unfold rgN at hk
  generalize rl[n]?.getD false=b1 at *
  generalize iA m (n:Nat)=v at *
  cases b1 with
  | false =>
   rw [if_neg (by simp),q05] at hk
   (repeat' first|simp only [il9l2_go,il9l2b,go_sem,hs,gr,hlt]|with_reducible refine wX fun _=>?_|((with_reducible refine wY ?_ ?_); rfl)|fail)
   all_goals (refine hk _ _ _ (.inr ⟨rfl,rfl,?_⟩); simp only [go_sem])
  | true =>
   cases hst:stA t n with
   | false =>
    rw [hst] at gs hk
    rw [if_pos (by simp),q01] at hk
    (repeat' first|simp only [il9l2_go,il9l2b,go_sem,hs,gr,gs,hlt,hw]|with_reducible refine wX fun _=>?_|((with_reducible refine wY ?_ ?_); rfl)|fail)
    all_goals (refine hk _ _ ⟨?_,rfl⟩; simp only [go_sem,hs,hw])
   | true =>
    rw [hst] at gs hk
    by_cases d1:v < 1
    ·have d1':decide (v < 1)=true:=decide_eq_true d1
     rw [if_neg (by simp [d1']),q05] at hk
     (repeat' first|simp only [il9l2_go,il9l2b,go_sem,hs,gr,gs,gm,hlt,hi,hm,hmr,d1']|with_reducible refine wX fun _=>?_|((with_reducible refine wY ?_ ?_); rfl)|fail)
     all_goals (refine hk _ _ _ (.inr ⟨rfl,rfl,?_⟩); simp only [go_sem])
    ·have d1':decide (v < 1)=false:=decide_eq_false d1
     by_cases d2:2 < v
     ·have d2':decide (2 < v)=true:=decide_eq_true d2
      rw [if_neg (by simp [d1',d2']),q05] at hk
      (repeat' first|simp only [il9l2_go,il9l2b,go_sem,hs,gr,gs,gm,hlt,hi,hm,hmr,d1',d2']|with_reducible refine wX fun _=>?_|((with_reducible refine wY ?_ ?_); rfl)|fail)
      all_goals (refine hk _ _ _ (.inr ⟨rfl,rfl,?_⟩); simp only [go_sem])
     ·have d2':decide (2 < v)=false:=decide_eq_false d2
      rw [if_pos (by simp [d1',d2']),q01] at hk
      (repeat' first|simp only [il9l2_go,il9l2b,go_sem,hs,gr,gs,gm,hlt,hw,hi,hm,hmr,d1',d2']|with_reducible refine wX fun _=>?_|((with_reducible refine wY ?_ ?_); rfl)|fail)
      all_goals (refine hk _ _ ⟨?_,rfl⟩; simp only [go_sem,hs,hw])
 ·intro _ e h Y R' hlt ⟨hs,hh⟩ hk
  subst hh
  have hlt:decide (((N:Nat):Int) < t.nodes)=false:=by rw [← hN]; exact hlt
  (repeat' first|simp only [il9l2_go,il9l2b,go_sem,hs,hlt]|with_reducible refine wX fun _=>?_|((with_reducible refine wY ?_ ?_); rfl)|fail)
  all_goals exact hk _ _ _ (.inl ⟨rfl,rfl⟩)
 ·intro x e h hx
  rw [foldC_all,← List.range_eq_range'] at hx
  rcases hx with ⟨h1,rfl⟩|⟨h1,rfl,h2⟩
  ·exact hR1 h1 _ _
  ·exact hR2 h1 _ _ h2
theorem qhh {t:Tpo} {N:Nat} {rl:List Bool} (hz:t.station.length=N) (hrl:rl.length=N):(List.range N).all (rgN t (degs t) rl)=(degOk t && !decide (false∈rl)):=by
 rw [Bool.eq_iff_iff]
 simp only [degOk,hz,List.all_eq_true,List.mem_range,Bool.and_eq_true,rgN,Bool.not_eq_true',decide_eq_false_iff_not,Bool.or_eq_true,decide_eq_true_eq,Bool.and_eq_false_iff,Bool.or_eq_false_iff]
 constructor
 ·intro h
  refine ⟨fun n hn=>?_,fun hm=>?_⟩
  ·rcases (h n hn).2 with h1|⟨h1,h2⟩
   ·exact .inl h1
   ·exact .inr (by omega)
  ·obtain ⟨n,hn,hv⟩:=List.getElem_of_mem hm
   have:=(h n (by omega)).1
   rw [List.getElem?_eq_getElem hn,hv] at this
   cases this
 ·rintro ⟨h1,h2⟩ n hn
  refine ⟨?_,?_⟩
  ·rw [List.getElem?_eq_getElem (by omega)]
   cases hv:rl[n]'(by omega) with
   | true=>rfl
   | false=>exact absurd (hv ▸ List.getElem_mem _) h2
  ·rcases h1 n hn with h|h
   ·exact .inl h
   ·exact .inr (by omega)
theorem qhi (c1 c2:Bool) (t:Tpo):ans Tryz.prog pol 9 [tpT c1 c2 t]=some (B (okT t)):=by
 by_cases h1:t.nodes < 2
 ·have e1:=decide_eq_true h1
  rw [show okT t=false by rw [okT,decide_eq_false (fun h=>by have:=h.1.1; omega)]; rfl]
  refine q00 1 1 il9_eq (Nat.le_of_ble_eq_true rfl) ?_
  (repeat' first|simp only [il9c,go_sem,e1]|with_reducible refine wX fun _=>?_|((with_reducible refine wY ?_ ?_); rfl)|fail)
 have e1:=decide_eq_false h1
 by_cases h2:12 < t.nodes
 ·have e2:=decide_eq_true h2
  rw [show okT t=false by rw [okT,decide_eq_false (fun h=>by have:=h.1.2; omega)]; rfl]
  refine q00 1 1 il9_eq (Nat.le_of_ble_eq_true rfl) ?_
  (repeat' first|simp only [il9c,go_sem,e1,e2]|with_reducible refine wX fun _=>?_|((with_reducible refine wY ?_ ?_); rfl)|fail)
 have e2:=decide_eq_false h2
 by_cases h3:(t.station.length:Int)=t.nodes
 rotate_left
 ·have e3:=decide_eq_false h3
  rw [show okT t=false by rw [okT,decide_eq_false (fun h=>h3 h.2.1)]; rfl]
  refine q00 1 1 il9_eq (Nat.le_of_ble_eq_true rfl) ?_
  (repeat' first|simp only [il9c,go_sem,e1,e2,e3]|with_reducible refine wX fun _=>?_|((with_reducible refine wY ?_ ?_); rfl)|fail)
 have e3:=decide_eq_true h3
 by_cases h4:(24:Int) < (t.links.length:Nat)
 ·have e4:=decide_eq_true h4
  rw [show okT t=false by rw [okT,decide_eq_false (fun h=>by have:=h.2.2; omega)]; rfl]
  refine q00 1 1 il9_eq (Nat.le_of_ble_eq_true rfl) ?_
  (repeat' first|simp only [il9c,go_sem,e1,e2,e3,e4]|with_reducible refine wX fun _=>?_|((with_reducible refine wY ?_ ?_); rfl)|fail)
 have e4:=decide_eq_false h4
 have hz:sizeP t:=⟨⟨by omega,by omega⟩,h3,by omega⟩
 obtain ⟨N,hN⟩:∃ N:Nat,(N:Int)=t.nodes:=⟨t.nodes.toNat,by omega⟩
 have hNn:t.nodes.toNat=N:=by omega
 have hroom:8*N≤roomB:=by rw [Nat.mul_comm]; exact q07 (by omega) (by omega)
 have hbig:N≤9223372036854775807:=by omega
 have hpos:0≤t.nodes:=by omega
 have hdeg:t.links.foldl dStep (List.replicate N 0)=degs t:=by rw [degs,hNn]
 have hdl:=q5Z t
 rw [hNn] at hdl
 have hrl:=q2l t 0 (fun _=>false)
 rw [hNn] at hrl
 have ho:okT t=(soundL t && (degOk t && !(decide (false∈reachL t 0 (fun _=>false))))):=by rw [okT,decide_eq_true hz,Bool.true_and]
 have k2:soundL t=true→ans Tryz.prog pol 37 [tpT c1 c2 t,I 0,.sc (.slice none 0 0)]=some (.sl true 1 ((reachL t 0 (fun _=>false)).map B)):=fun hs=>qha c1 c2 t (q3q hs) (by omega) (by omega) 0 (by omega)
 rw [← qhh (by omega) hrl] at ho
 generalize reachL t 0 (fun _=>false)=rl at *
 have hmap:List.replicate N (AV.t (T.sc (Value.int IntKind.i64 0)))=((List.replicate N (0:Int)).map I).map .t:=by simp
 obtain ⟨nn,hn⟩:∃ nn,100 < nn:=⟨101,by omega⟩
 refine q00 nn 1 il9_eq (Nat.le_of_ble_eq_true rfl) ?_
 (repeat' first|simp only [il9c,go_sem,e1,e2,e3,e4,hroom,hbig,hpos,hNn]|with_reducible refine wX fun _=>?_|((with_reducible refine wY ?_ ?_); rfl)|fail)
 rw [hmap]
 refine qhf t h3 (by omega) c1 c2 N hN _ _ hn _ _ (by simp only [go_sem]) ?_ ?_
 ·intro hs e mr hmr he
  rw [hdeg]
  have k2:=k2 hs
  rw [hs,Bool.true_and] at ho
  (repeat' first|simp only [il9c,go_sem,he,k2]|with_reducible refine wX fun _=>?_|((with_reducible refine wY ?_ ?_); rfl)|fail)
  refine qhg t h3 c1 c2 N hN (by omega) (degs t) hdl rl hrl mr hmr _ _ hn _ _ (by simp only [go_sem,he]) ?_ ?_
  ·intro h5 e hh
   rw [ho,h5]
   (repeat' first|simp only [il9c,go_sem]|with_reducible refine wX fun _=>?_|((with_reducible refine wY ?_ ?_); rfl)|fail)
  ·intro h5 e hh he2
   rw [ho,h5]
   (repeat' first|simp only [il9c,go_sem,he2]|with_reducible refine wX fun _=>?_|((with_reducible refine wY ?_ ?_); rfl)|fail)
 ·intro hs e hh he2
  rw [ho,hs,Bool.false_and]
  (repeat' first|simp only [il9c,go_sem,he2]|with_reducible refine wX fun _=>?_|((with_reducible refine wY ?_ ?_); rfl)|fail)
end Go.Proofs.YtbibdnlbpjnieaaGreat
namespace Go.Proofs.YtbibdnlbpjnieaaGreat
open Go Go.Abs
theorem qhj (n:Int) (S1 S2 S1' S2':T) (a:List Bool) (hl:a.length≤1000) (ra:SlR S1 1 (a.map B)) (rb:SlR S1' 1 (a.map B)) (J:Inl) (nn:Nat) (hn:1000 < nn) (R:Xit→FEnv→Heap→Prop) (e:FEnv)
  (he:e 2=.t (.ip [I n,S1,S2])∧e 3=.t (.ip [I n,S1',S2'])∧e 5=.t (I 0))
  (hR1:∀ e,(e 2=.t (.ip [I n,S1,S2])∧e 3=.t (.ip [I n,S1',S2']))→R (.exit 0) e []) :
  wpIter 0 (some [2,3,5]) (wc Tryz.prog pol (ans Tryz.prog pol) J nn 82 il82l0) R nn e []:=by
 have L1:=ra.len
 rw [List.length_map] at L1
 refine q04 a B (step:=fun i x (_:Unit)=>Ctl.go ()) (fin:=id)
  (St:=fun i _ e h=>h=[]∧e 2=.t (.ip [I n,S1,S2])∧e 3=.t (.ip [I n,S1',S2'])∧e 5=.t (I (i:Nat)))
  (Ex:=fun r x e h=>x=.exit 0∧(e 2=.t (.ip [I n,S1,S2])∧e 3=.t (.ip [I n,S1',S2']))∧h=[]) (s:=()) (by omega) ?_ ?_ (by omega) ⟨rfl,he⟩ ?_
 ·intro i x _ e h Y R' hm hi hx hget hlt hw ⟨h0,hs⟩ hk
  subst h0
  simp only [q01] at hk
  have I1:=ra.ix 1 i
  have I2:=rb.ix 1 i
  rw [hget] at I1 I2
  have hd:(x != x)=false:=bne_self_eq_false x
  (repeat' first|simp only [il82l0_go,il82l0b,go_sem,hs,L1,I1,I2,hlt,hw,hd]|with_reducible refine wX fun _=>?_|((with_reducible refine wY ?_ ?_); rfl)|fail)
  all_goals (refine hk _ _ ?_; simp only [go_sem,hs,hw])
 ·intro s e h Y R' hlt ⟨h0,hs⟩ hk
  subst h0
  (repeat' first|simp only [il82l0_go,il82l0b,go_sem,hs,L1,hlt]|with_reducible refine wX fun _=>?_|((with_reducible refine wY ?_ ?_); rfl)|fail)
  all_goals (refine hk _ _ _ ⟨rfl,?_,rfl⟩; simp only [go_sem,hs])
 ·intro x e h ⟨h1,h2,h3⟩
  subst h1 h3
  exact hR1 _ h2
theorem qhk (n:Int) (S1 S2 S1' S2':T) (a:List Lk) (hl:a.length≤1000) (ra:SlR S2 4 (a.map encK)) (rb:SlR S2' 4 (a.map encK)) (J:Inl) (nn:Nat) (hn:1000 < nn) (R:Xit→FEnv→Heap→Prop) (e:FEnv)
  (he:e 2=.t (.ip [I n,S1,S2])∧e 3=.t (.ip [I n,S1',S2'])∧e 6=.t (I 0))
  (hR1:∀ e,(e 2=.t (.ip [I n,S1,S2])∧e 3=.t (.ip [I n,S1',S2']))→R (.exit 2) e []) :
  wpIter 0 (some [2,3,6]) (wc Tryz.prog pol (ans Tryz.prog pol) J nn 82 il82l1) R nn e []:=by
 have L1:=ra.len
 rw [List.length_map] at L1
 refine q04 a encK (step:=fun i x (_:Unit)=>Ctl.go ()) (fin:=id)
  (St:=fun i _ e h=>h=[]∧e 2=.t (.ip [I n,S1,S2])∧e 3=.t (.ip [I n,S1',S2'])∧e 6=.t (I (i:Nat)))
  (Ex:=fun r x e h=>x=.exit 2∧(e 2=.t (.ip [I n,S1,S2])∧e 3=.t (.ip [I n,S1',S2']))∧h=[]) (s:=()) (by omega) ?_ ?_ (by omega) ⟨rfl,he⟩ ?_
 ·intro i x _ e h Y R' hm hi hx hget hlt hw ⟨h0,hs⟩ hk
  subst h0
  simp only [q01] at hk
  have I1:=ra.ix 4 i
  have I2:=rb.ix 4 i
  rw [hget] at I1 I2
  (repeat' first|simp only [il82l1_go,il82l1b,go_sem,hs,L1,I1,I2,hlt,hw,q0g]|with_reducible refine wX fun _=>?_|((with_reducible refine wY ?_ ?_); rfl)|fail)
  all_goals (refine hk _ _ ?_; simp only [go_sem,hs,hw])
 ·intro s e h Y R' hlt ⟨h0,hs⟩ hk
  subst h0
  (repeat' first|simp only [il82l1_go,il82l1b,go_sem,hs,L1,hlt]|with_reducible refine wX fun _=>?_|((with_reducible refine wY ?_ ?_); rfl)|fail)
  all_goals (refine hk _ _ _ ⟨rfl,?_,rfl⟩; simp only [go_sem,hs])
 ·intro x e h ⟨h1,h2,h3⟩
  subst h1 h3
  exact hR1 _ h2
theorem qhl {n:Int} {S1 S2 S1' S2':T} {st:List Bool} {lk:List Lk} (r1:SlR S1 1 (st.map B)) (r2:SlR S2 4 (lk.map encK)) (q1:SlR S1' 1 (st.map B)) (q2:SlR S2' 4 (lk.map encK)) (l1:st.length≤1000) (l2:lk.length≤1000) :
  ans Tryz.prog pol 82 [.agg [I n,S1,S2],.agg [I n,S1',S2']]=some (B true):=by
 have t1:=r1.sto
 have t2:=r2.sto
 have u1:=q1.sto
 have u2:=q2.sto
 have L1:=r1.len
 have L2:=r2.len
 have M1:=q1.len
 have M2:=q2.len
 rw [List.length_map] at L1 L2 M1 M2
 obtain ⟨nn,hn⟩:∃ nn,1000 < nn:=⟨1001,by omega⟩
 refine q00 nn 1 il82_eq (Nat.le_of_ble_eq_true rfl) ?_
 (repeat' first|simp only [il82c,go_sem,t1,t2,u1,u2,L1,L2,M1,M2]|with_reducible refine wX fun _=>?_|((with_reducible refine wY ?_ ?_); rfl)|fail)
 refine qhj n S1 S2 S1' S2' st l1 r1 q1 _ nn hn _ _ (by simp only [go_sem]) ?_
 intro e he
 (repeat' first|simp only [il82c,go_sem,he]|with_reducible refine wX fun _=>?_|((with_reducible refine wY ?_ ?_); rfl)|fail)
 refine qhk n S1 S2 S1' S2' lk l2 r2 q2 _ nn hn _ _ (by simp only [go_sem,he]) ?_
 intro e he
 (repeat' first|simp only [il82c,go_sem,he]|with_reducible refine wX fun _=>?_|((with_reducible refine wY ?_ ?_); rfl)|fail)
theorem qhm (n:Int) (S1 S2 S3 S4 S5 S1' S2' S3' S4' S5':T) (a:List Int) (hl:a.length≤1000) (ra:SlR S3 1 (a.map I)) (rb:SlR S3' 1 (a.map I)) (J:Inl) (nn:Nat) (hn:1000 < nn) (R:Xit→FEnv→Heap→Prop) (e:FEnv)
  (he:e 2=.t (.ip [I n,S1,S2,S3,S4,S5])∧e 3=.t (.ip [I n,S1',S2',S3',S4',S5'])∧e 5=.t (I 0))
  (hR1:∀ e,(e 2=.t (.ip [I n,S1,S2,S3,S4,S5])∧e 3=.t (.ip [I n,S1',S2',S3',S4',S5']))→R (.exit 0) e []) :
  wpIter 0 (some [2,3,5]) (wc Tryz.prog pol (ans Tryz.prog pol) J nn 38 il38l0) R nn e []:=by
 have L1:=ra.len
 rw [List.length_map] at L1
 refine q04 a I (step:=fun i x (_:Unit)=>Ctl.go ()) (fin:=id)
  (St:=fun i _ e h=>h=[]∧e 2=.t (.ip [I n,S1,S2,S3,S4,S5])∧e 3=.t (.ip [I n,S1',S2',S3',S4',S5'])∧e 5=.t (I (i:Nat)))
  (Ex:=fun r x e h=>x=.exit 0∧(e 2=.t (.ip [I n,S1,S2,S3,S4,S5])∧e 3=.t (.ip [I n,S1',S2',S3',S4',S5']))∧h=[]) (s:=()) (by omega) ?_ ?_ (by omega) ⟨rfl,he⟩ ?_
 ·intro i x _ e h Y R' hm hi hx hget hlt hw ⟨h0,hs⟩ hk
  subst h0
  simp only [q01] at hk
  have I1:=ra.ix 1 i
  have I2:=rb.ix 1 i
  rw [hget] at I1 I2
  (repeat' first|simp only [il38l0_go,il38l0b,go_sem,hs,L1,I1,I2,hlt,hw]|with_reducible refine wX fun _=>?_|((with_reducible refine wY ?_ ?_); rfl)|fail)
  all_goals (refine hk _ _ ?_; simp only [go_sem,hs,hw])
 ·intro s e h Y R' hlt ⟨h0,hs⟩ hk
  subst h0
  (repeat' first|simp only [il38l0_go,il38l0b,go_sem,hs,L1,hlt]|with_reducible refine wX fun _=>?_|((with_reducible refine wY ?_ ?_); rfl)|fail)
  all_goals (refine hk _ _ _ ⟨rfl,?_,rfl⟩; simp only [go_sem,hs])
 ·intro x e h ⟨h1,h2,h3⟩
  subst h1 h3
  exact hR1 _ h2
theorem qhn (n:Int) (S1 S2 S3 S4 S5 S1' S2' S3' S4' S5':T) (a:List Bool) (hl:a.length≤1000) (ra:SlR S4 1 (a.map B)) (rb:SlR S4' 1 (a.map B)) (J:Inl) (nn:Nat) (hn:1000 < nn) (R:Xit→FEnv→Heap→Prop) (e:FEnv)
  (he:e 2=.t (.ip [I n,S1,S2,S3,S4,S5])∧e 3=.t (.ip [I n,S1',S2',S3',S4',S5'])∧e 6=.t (I 0))
  (hR1:∀ e,(e 2=.t (.ip [I n,S1,S2,S3,S4,S5])∧e 3=.t (.ip [I n,S1',S2',S3',S4',S5']))→R (.exit 2) e []) :
  wpIter 0 (some [2,3,6]) (wc Tryz.prog pol (ans Tryz.prog pol) J nn 38 il38l1) R nn e []:=by
 have L1:=ra.len
 rw [List.length_map] at L1
 refine q04 a B (step:=fun i x (_:Unit)=>Ctl.go ()) (fin:=id)
  (St:=fun i _ e h=>h=[]∧e 2=.t (.ip [I n,S1,S2,S3,S4,S5])∧e 3=.t (.ip [I n,S1',S2',S3',S4',S5'])∧e 6=.t (I (i:Nat)))
  (Ex:=fun r x e h=>x=.exit 2∧(e 2=.t (.ip [I n,S1,S2,S3,S4,S5])∧e 3=.t (.ip [I n,S1',S2',S3',S4',S5']))∧h=[]) (s:=()) (by omega) ?_ ?_ (by omega) ⟨rfl,he⟩ ?_
 ·intro i x _ e h Y R' hm hi hx hget hlt hw ⟨h0,hs⟩ hk
  subst h0
  simp only [q01] at hk
  have I1:=ra.ix 1 i
  have I2:=rb.ix 1 i
  rw [hget] at I1 I2
  have hd:(x != x)=false:=bne_self_eq_false x
  (repeat' first|simp only [il38l1_go,il38l1b,go_sem,hs,L1,I1,I2,hlt,hw,hd]|with_reducible refine wX fun _=>?_|((with_reducible refine wY ?_ ?_); rfl)|fail)
  all_goals (refine hk _ _ ?_; simp only [go_sem,hs,hw])
 ·intro s e h Y R' hlt ⟨h0,hs⟩ hk
  subst h0
  (repeat' first|simp only [il38l1_go,il38l1b,go_sem,hs,L1,hlt]|with_reducible refine wX fun _=>?_|((with_reducible refine wY ?_ ?_); rfl)|fail)
  all_goals (refine hk _ _ _ ⟨rfl,?_,rfl⟩; simp only [go_sem,hs])
 ·intro x e h ⟨h1,h2,h3⟩
  subst h1 h3
  exact hR1 _ h2
def sameB (xs ys:List Bx):Prop:=xs.length=ys.length∧∀ (i:Nat) (x y:Bx),xs[i]? = some x→ys[i]? = some y→ctX x=ctX y
def smallB (xs:List Bx):Prop:=xs.length≤1000∧∀ x∈xs,(ctX x).ports.length≤1000∧(ctX x).costs.length≤1000∧(ctX x).heard.length≤1000
theorem qho (n:Int) (S1 S2 S3 S4 S5 S1' S2' S3' S4' S5':T) (xs ys:List Bx) (hl:smallB xs) (hs:sameB xs ys) (ra:SlR S5 5 (xs.map encX)) (rb:SlR S5' 5 (ys.map encX)) (J:Inl) (nn:Nat) (hn:1000 < nn) (R:Xit→FEnv→Heap→Prop) (e:FEnv)
  (he:e 2=.t (.ip [I n,S1,S2,S3,S4,S5])∧e 3=.t (.ip [I n,S1',S2',S3',S4',S5'])∧e 7=.t (I 0))
  (hR1:∀ e,R (.exit 4) e []) :
  wpIter 0 (some [2,3,7]) (wc Tryz.prog pol (ans Tryz.prog pol) J nn 38 il38l2) R nn e []:=by
 have L1:=ra.len
 rw [List.length_map] at L1
 obtain ⟨hl0,hl⟩:=hl
 obtain ⟨hle,hs⟩:=hs
 refine q04 xs encX (step:=fun i x (_:Unit)=>Ctl.go ()) (fin:=id)
  (St:=fun i _ e h=>h=[]∧e 2=.t (.ip [I n,S1,S2,S3,S4,S5])∧e 3=.t (.ip [I n,S1',S2',S3',S4',S5'])∧e 7=.t (I (i:Nat)))
  (Ex:=fun r x e h=>x=.exit 4∧h=[]) (s:=()) (by omega) ?_ ?_ (by omega) ⟨rfl,he⟩ ?_
 ·intro i x _ e h Y R' hm hi hx hget hlt hw ⟨h0,hs'⟩ hk
  subst h0
  simp only [q01] at hk
  obtain ⟨y,hy⟩:∃ y,ys[i]? = some y:=⟨ys[i]'(by omega),by simp⟩
  have I1:=ra.ix 5 i
  have I2:=rb.ix 5 i
  have hgy:(ys.map encX)[i]? = some (encX y):=by simp [hy]
  rw [hget] at I1
  rw [hgy] at I2
  obtain ⟨b1,b2,b3⟩:=hl x hm
  have k1:=qh6 x y b1 b2 b3 (hs i x y hx hy)
  obtain ⟨A1,A2,A3,ex,_,_,_⟩:=q2u x
  obtain ⟨B1,B2,B3,ey,_,_,_⟩:=q2u y
  have ex:encX x=.agg [I (ctX x).p,I (ctX x).n,A1,A2,A3]:=congrArg T.agg ex
  have ey:encX y=.agg [I (ctX y).p,I (ctX y).n,B1,B2,B3]:=congrArg T.agg ey
  rw [ex] at I1 k1
  rw [ey] at I2 k1
  (repeat' first|simp only [il38l2_go,il38l2b,go_sem,hs',L1,I1,I2,hlt,hw,k1]|with_reducible refine wX fun _=>?_|((with_reducible refine wY ?_ ?_); rfl)|fail)
  all_goals (refine hk _ _ ?_; simp only [go_sem,hs',hw])
 ·intro s e h Y R' hlt ⟨h0,hs⟩ hk
  subst h0
  (repeat' first|simp only [il38l2_go,il38l2b,go_sem,hs,L1,hlt]|with_reducible refine wX fun _=>?_|((with_reducible refine wY ?_ ?_); rfl)|fail)
  all_goals exact hk _ _ _ ⟨rfl,rfl⟩
 ·intro x e h ⟨h1,h3⟩
  subst h1 h3
  exact hR1 _
theorem q6j {n:Int} {S1 S2 S3 S4 S5 S1' S2' S3' S4' S5':T} {st:List Bool} {lk:List Lk} {pr:List Int} {dn:List Bool} {xs ys:List Bx} (r1:SlR S1 1 (st.map B)) (r2:SlR S2 4 (lk.map encK)) (r3:SlR S3 1 (pr.map I)) (r4:SlR S4 1 (dn.map B)) (r5:SlR S5 5 (xs.map encX))
  (q1:SlR S1' 1 (st.map B)) (q2:SlR S2' 4 (lk.map encK)) (q3:SlR S3' 1 (pr.map I)) (q4:SlR S4' 1 (dn.map B)) (q5:SlR S5' 5 (ys.map encX)) (l1:st.length≤1000) (l2:lk.length≤1000) (l3:pr.length≤1000) (l4:dn.length≤1000) (l5:smallB xs) (hxy:sameB xs ys) :
  ans Tryz.prog pol 38 [.agg [I n,S1,S2,S3,S4,S5],.agg [I n,S1',S2',S3',S4',S5']]=some (B true):=by
 have k1:=qhl (n:=n) r1 r2 q1 q2 l1 l2
 have t1:=r1.sto
 have t2:=r2.sto
 have t3:=r3.sto
 have t4:=r4.sto
 have t5:=r5.sto
 have u1:=q1.sto
 have u2:=q2.sto
 have u3:=q3.sto
 have u4:=q4.sto
 have u5:=q5.sto
 have L3:=r3.len
 have L4:=r4.len
 have L5:=r5.len
 have M3:=q3.len
 have M4:=q4.len
 have M5:=q5.len
 rw [List.length_map] at L3 L4 L5 M3 M4 M5
 rw [← hxy.1] at M5
 obtain ⟨nn,hn⟩:∃ nn,1000 < nn:=⟨1001,by omega⟩
 refine q00 nn 1 il38_eq (Nat.le_of_ble_eq_true rfl) ?_
 (repeat' first|simp only [il38c,go_sem,k1,t1,t2,t3,t4,t5,u1,u2,u3,u4,u5,L3,L4,L5,M3,M4,M5]|with_reducible refine wX fun _=>?_|((with_reducible refine wY ?_ ?_); rfl)|fail)
 refine qhm n S1 S2 S3 S4 S5 S1' S2' S3' S4' S5' pr l3 r3 q3 _ nn hn _ _ (by simp only [go_sem]) ?_
 intro e he
 (repeat' first|simp only [il38c,go_sem,he]|with_reducible refine wX fun _=>?_|((with_reducible refine wY ?_ ?_); rfl)|fail)
 refine qhn n S1 S2 S3 S4 S5 S1' S2' S3' S4' S5' dn l4 r4 q4 _ nn hn _ _ (by simp only [go_sem,he]) ?_
 intro e he
 (repeat' first|simp only [il38c,go_sem,he]|with_reducible refine wX fun _=>?_|((with_reducible refine wY ?_ ?_); rfl)|fail)
 refine qho n S1 S2 S3 S4 S5 S1' S2' S3' S4' S5' xs ys l5 hxy r5 q5 _ nn hn _ _ (by simp only [go_sem,he]) ?_
 intro e
 (repeat' first|simp only [il38c,go_sem]|with_reducible refine wX fun _=>?_|((with_reducible refine wY ?_ ?_); rfl)|fail)
theorem qhp (c c1 c2:Bool) (t:Tpo) (l:List Int) (hl:l.length≤900):ans Tryz.prog pol 11 [tpT c1 c2 t,.sl c 1 (l.map I)]=some (B (rankL t l)):=by
 refine q00 1000 1 il11_eq (Nat.le_of_ble_eq_true rfl) ?_
 by_cases h:(l.length:Int)=t.nodes
 rotate_left
 ·have d:=decide_eq_false h
  have hr:rankL t l=false:=by rw [rankL,d,Bool.false_and]
  rw [hr]
  (repeat' first|simp only [il11c,go_sem,d]|with_reducible refine wX fun _=>?_|((with_reducible refine wY ?_ ?_); rfl)|fail)
 have d:=decide_eq_true h
 have hr:rankL t l=l.all (fun p=>decide (0≤p∧p≤15)):=by rw [rankL,d,Bool.true_and]
 rw [hr]
 (repeat' first|simp only [il11c,go_sem,d]|with_reducible refine wX fun _=>?_|((with_reducible refine wY ?_ ?_); rfl)|fail)
 refine q04 l I (step:=fun i x (_:Unit)=>if decide (0≤x∧x≤15)=true then Ctl.go () else Ctl.out false) (fin:=fun _=>true)
  (St:=fun i _ e h=>(e 1=.t (.sl c 1 (l.map I))∧e 5=.t (I (i:Nat)))∧h=[])
  (Ex:=fun r x e h=>r=true∧x=.exit 0∨r=false∧x=.ret∧e 4=.t (B false)) (s:=()) (by omega) ?_ ?_ (by omega) ?_ ?_
 ·intro i x _ e h Y R hm hi hx hget hlt hw ⟨hs,hh⟩ hk
  subst hh
  by_cases g1:x < 0
  ·have e1:=decide_eq_true g1
   rw [if_neg (by rw [decide_eq_true_eq]; omega),q05] at hk
   (repeat' first|simp only [il11l0_go,il11l0b,go_sem,hs,hget,hlt,e1]|with_reducible refine wX fun _=>?_|((with_reducible refine wY ?_ ?_); rfl)|fail)
   all_goals (refine hk _ _ _ (.inr ⟨rfl,rfl,?_⟩); simp only [go_sem])
  ·have e1:=decide_eq_false g1
   by_cases g2:15 < x
   ·have e2:=decide_eq_true g2
    rw [if_neg (by rw [decide_eq_true_eq]; omega),q05] at hk
    (repeat' first|simp only [il11l0_go,il11l0b,go_sem,hs,hget,hlt,e1,e2]|with_reducible refine wX fun _=>?_|((with_reducible refine wY ?_ ?_); rfl)|fail)
    all_goals (refine hk _ _ _ (.inr ⟨rfl,rfl,?_⟩); simp only [go_sem])
   ·have e2:=decide_eq_false g2
    rw [if_pos (by rw [decide_eq_true_eq]; omega),q01] at hk
    (repeat' first|simp only [il11l0_go,il11l0b,go_sem,hs,hget,hlt,hw,e1,e2]|with_reducible refine wX fun _=>?_|((with_reducible refine wY ?_ ?_); rfl)|fail)
    all_goals (refine hk _ _ ⟨?_,rfl⟩; simp only [go_sem,hs,hw])
 ·intro _ e h Y R hlt ⟨hs,hh⟩ hk
  subst hh
  (repeat' first|simp only [il11l0_go,il11l0b,go_sem,hs,hlt]|with_reducible refine wX fun _=>?_|((with_reducible refine wY ?_ ?_); rfl)|fail)
  all_goals (refine hk _ _ _ (.inl ?_); simp only [go_sem])
 ·refine ⟨?_,rfl⟩
  simp only [go_sem]
 ·intro x e h hx
  have hf:∀ (l:List Int) (i:Nat),foldC (fun i x (_:Unit)=>if decide (0≤x∧x≤15)=true then Ctl.go () else Ctl.out false) (fun _=>true) i l ()=l.all (fun p=>decide (0≤p∧p≤15)):=by
   intro l
   induction l with
   | nil=>intro i; rfl
   | cons x l ih =>
    intro i
    rw [List.all_cons]
    by_cases q:decide (0≤x∧x≤15)=true
    ·rw [q0a (s':=()) (if_pos q),ih,q,Bool.true_and]
    ·rw [q0O (r:=false) (if_neg q)]
     have q:decide (0≤x∧x≤15)=false:=by simpa using q
     rw [q,Bool.false_and]
  rw [hf] at hx
  rcases hx with ⟨hb,rfl⟩|⟨hb,rfl,e2⟩
  ·rw [hb]
   (repeat' first|simp only [il11c,go_sem]|with_reducible refine wX fun _=>?_|((with_reducible refine wY ?_ ?_); rfl)|fail)
  ·rw [hb]
   (repeat' first|simp only [il11c,go_sem,e2]|with_reducible refine wX fun _=>?_|((with_reducible refine wY ?_ ?_); rfl)|fail)
end Go.Proofs.YtbibdnlbpjnieaaGreat
