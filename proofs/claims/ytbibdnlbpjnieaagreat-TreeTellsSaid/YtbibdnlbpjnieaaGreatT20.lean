/- Part 20 of the proof of TreeTells. -/
import Derived.Test.YtbibdnlbpjnieaaGreatT19
set_option linter.all false
set_option maxRecDepth 100000
set_option maxHeartbeats 4000000
namespace Go.Proofs.YtbibdnlbpjnieaaGreat
open Go Go.Abs
theorem qg1 (n:Nat):ans Tryz.prog pol 81 [.sc (.slice none 0 0),I (n:Nat)]=some (B false):=by
 refine q00 10 1 il81_eq (Nat.le_of_ble_eq_true rfl) ?_
 (repeat' first|simp only [il81c,go_sem]|with_reducible refine wX fun _=>?_|((with_reducible refine wY ?_ ?_); rfl)|((with_reducible refine q0C (body:=wc _ _ _ _ _ _ il81l0) ?_ ?_); exact Nat.le_of_ble_eq_true rfl; simp only [il81l0_go,il81l0b])|fail)
theorem q6x {l:List Bool} {n:Nat} (h:l[n]? = some true):l.set n true=l:=by
 refine List.ext_getElem? (fun m=>?_)
 by_cases e:n=m
 ·subst e; rw [List.getElem?_set_self (List.getElem?_eq_some_iff.1 h).1,h]
 ·rw [List.getElem?_set_ne e]
theorem qg2 {i:Nat} {r:List Bool} {l:Lk} (ha:l.a.toNat < r.length) (hb:l.b.toNat < r.length) :
  rStep (fun _=>false) i r l=if (rB r l.a || rB r l.b)=true then (r.set l.a.toNat true).set l.b.toNat true else r:=by
 unfold rStep
 cases h1:rB r l.a <;> cases h2:rB r l.b
 ·rfl
 ·rfl
 ·rfl
 ·simp only [Bool.not_false,Bool.true_and,bne_self_eq_false,Bool.false_eq_true,if_false,Bool.or_self,if_true]
  have e1:r[l.a.toNat]? = some true:=by rw [rB,List.getElem?_eq_getElem ha] at h1; rw [List.getElem?_eq_getElem ha]; exact congrArg some h1
  have e2:r[l.b.toNat]? = some true:=by rw [rB,List.getElem?_eq_getElem hb] at h2; rw [List.getElem?_eq_getElem hb]; exact congrArg some h2
  rw [q6x e1,q6x e2]
theorem qg3 (t:Tpo) (hv:∀ l∈t.links,endsP t l) (hb:t.links.length≤24) (c1 c2:Bool) (N:Nat) (hN:(N:Int)=t.nodes) (x8:T) (r:List Bool) (hr:r.length=N) (mr:Nat) (hmr:mr≤N)
  (J:Inl) (nn:Nat) (hn:100 < nn) (R:Xit→FEnv→Heap→Prop) (e:FEnv)
  (he:e 2=.t (.sc (.slice none 0 0))∧e 3=.t (.ip (tpC c1 c2 t))∧e 7=.ms 0 N 0 N 1 true∧e 8=.t x8∧e 9=.t (I 0))
  (hR:∀ e mr,mr≤N→(e 2=.t (.sc (.slice none 0 0))∧e 3=.t (.ip (tpC c1 c2 t))∧e 7=.ms 0 N 0 N 1 true∧e 8=.t x8)→R (.exit 2) e [.row 1 (((rRound (fun _=>false) 0 t.links r).map B).map .t) mr]) :
  wpIter 1 (some [2,3,7,8,9]) (wc Tryz.prog pol (ans Tryz.prog pol) J nn 37 il37l0) R nn e [.row 1 ((r.map B).map .t) mr]:=by
 have hst:∀ (r:List Bool) (n:Nat),(((r.map B).map AV.t).set n (.t (B true)))=((r.set n true).map B).map .t:=fun r n=>map_set (enc:=B)
 refine q06 t.links encK (step:=fun i l r=>.go (rStep (fun _=>false) i r l)) (fin:=id)
  (St:=fun i r e h=>(e 2=.t (.sc (.slice none 0 0))∧e 3=.t (.ip (tpC c1 c2 t))∧e 7=.ms 0 N 0 N 1 true∧e 8=.t x8∧e 9=.t (I (i:Nat)))∧r.length=N∧∃ mr,mr≤N∧h=[.row 1 ((r.map B).map .t) mr])
  (Ex:=fun r x e h=>(e 2=.t (.sc (.slice none 0 0))∧e 3=.t (.ip (tpC c1 c2 t))∧e 7=.ms 0 N 0 N 1 true∧e 8=.t x8)∧x=.exit 2∧∃ mr,mr≤N∧h=[.row 1 ((r.map B).map .t) mr]) (s:=r) (by omega) ?_ ?_ (by omega) ⟨he,hr,mr,hmr,rfl⟩ ?_
 ·intro i l r e h Y R hm hi hx hget hlt hw ⟨hs,hr,mr,hmr,hh⟩ hk
  subst hh
  simp only [q01] at hk
  obtain ⟨p1,p2,p3⟩:=hv l hm
  have q1:0≤l.a:=p1.1
  have q2:0≤l.b:=p2.1
  have q3:l.a.toNat < N:=by omega
  have q4:l.b.toNat < N:=by omega
  have k1:=qg1 i
  have gx:(t.links.map encK)[i]? = some (lkT l):=hget
  have g1:=q1z (r:=r) (n:=l.a) (by omega)
  have g2:=q1z (r:=r) (n:=l.b) (by omega)
  rw [qg2 (by omega) (by omega)] at hk
  have hl1:(r.set l.a.toNat true).length=N:=by simpa using hr
  have hl2:((r.set l.a.toNat true).set l.b.toNat true).length=N:=by simpa using hr
  have s1:=hst r l.a.toNat
  have s2:=hst (r.set l.a.toNat true) l.b.toNat
  have g3:=q1z (r:=r.set l.a.toNat true) (n:=l.b) (by rw [hl1]; exact q4)
  generalize rB (r.set l.a.toNat true) l.b=z at *
  generalize r.set l.a.toNat true=r1 at *
  generalize r1.set l.b.toNat true=r2 at *
  generalize rB r l.a=a at *
  generalize rB r l.b=b at *
  cases a with
  | true =>
   simp only [Bool.true_or,if_true] at hk
   (repeat' first|simp only [il37l0_go,il37l0b,go_sem,hs,gx,hlt,hw,k1,q1,q2,q3,q4,g1,g2,g3,s1,s2,hr,hl1,hl2,hmr]|with_reducible refine wX fun _=>?_|((with_reducible refine wY ?_ ?_); rfl)|fail)
   all_goals (refine hk _ _ ⟨?_,hl2,N,Nat.le_refl _,?_⟩ <;> simp only [go_sem,hs,hw])
  | false =>
   cases b with
   | true =>
    simp only [Bool.false_or,if_true] at hk
    (repeat' first|simp only [il37l0_go,il37l0b,go_sem,hs,gx,hlt,hw,k1,q1,q2,q3,q4,g1,g2,g3,s1,s2,hr,hl1,hl2,hmr]|with_reducible refine wX fun _=>?_|((with_reducible refine wY ?_ ?_); rfl)|fail)
    all_goals (refine hk _ _ ⟨?_,hl2,N,Nat.le_refl _,?_⟩ <;> simp only [go_sem,hs,hw])
   | false =>
    simp only [Bool.or_self,Bool.false_eq_true,if_false] at hk
    (repeat' first|simp only [il37l0_go,il37l0b,go_sem,hs,gx,hlt,hw,k1,q1,q2,q3,q4,g1,g2,hr,hmr]|with_reducible refine wX fun _=>?_|((with_reducible refine wY ?_ ?_); rfl)|fail)
    all_goals (refine hk _ _ ⟨?_,hr,mr,hmr,?_⟩ <;> simp only [go_sem,hs,hw])
 ·intro r e h Y R hlt ⟨hs,hr,mr,hmr,hh⟩ hk
  subst hh
  (repeat' first|simp only [il37l0_go,il37l0b,go_sem,hs,hlt]|with_reducible refine wX fun _=>?_|((with_reducible refine wY ?_ ?_); rfl)|fail)
  all_goals (refine hk _ _ _ ⟨?_,rfl,mr,hmr,rfl⟩; simp only [go_sem,hs,id])
 ·intro x e h ⟨h1,h2,mr,hmr,h3⟩
  subst h2 h3
  have hf:∀ (ls:List Lk) (i:Nat) (r:List Bool),foldC (ρ:=List Bool) (fun i l r=>Ctl.go (rStep (fun _=>false) i r l)) id i ls r=rRound (fun _=>false) i ls r:=by
   intro ls
   induction ls with
   | nil=>intro i r; rfl
   | cons l ls ih=>intro i r; rw [q07 (s':=rStep (fun _=>false) i r l) rfl,ih]; rfl
  rw [hf] at *
  exact hR _ mr hmr h1
theorem qg4 (c1 c2:Bool) (t:Tpo) (hv:∀ l∈t.links,endsP t l) (hb:t.links.length≤24) (hn:0≤t.nodes∧t.nodes≤100) (s:Nat) (hs:(s:Int) < t.nodes) :
  ans Tryz.prog pol 37 [tpT c1 c2 t,I (s:Nat),.sc (.slice none 0 0)]=some (.sl true 1 ((reachL t s (fun _=>false)).map B)):=by
 obtain ⟨nodes,station,links⟩:=t
 dsimp only at hv hb hn hs
 obtain ⟨N,rfl⟩:∃ N:Nat,nodes=(N:Int):=⟨nodes.toNat,by omega⟩
 have hNn:((N:Nat):Int).toNat=N:=by omega
 have hsN:s < N:=by omega
 have hroom:1*N≤roomB:=by rw [Nat.mul_comm]; exact q08 (by omega) (by omega)
 have hbig:N≤9223372036854775807:=by omega
 have hlen:=q2r ⟨N,station,links⟩ s (fun _=>false)
 dsimp only at hlen
 rw [hNn] at hlen
 simp only [reachL,hNn] at hlen ⊢
 have hset:=map_set (enc:=B) (l:=List.replicate N false) (i:=s) (x:=true)
 simp only [List.map_replicate] at hset
 have hs0:((List.replicate N (AV.t (B false))))[s]? = some (.t (B false)):=by simp [hsN]
 have hl0:((List.replicate N false).set s true).length=N:=by simp
 generalize hr0:(List.replicate N false).set s true=r0 at *
 clear hr0
 refine q00 1000 1 il37_eq (Nat.le_of_ble_eq_true rfl) ?_
 (repeat' first|simp only [il37c,go_sem,hroom,hbig,hsN,hs0,hset,List.length_replicate]|with_reducible refine wX fun _=>?_|((with_reducible refine wY ?_ ?_); rfl)|fail)
 refine q0r N (step:=fun i r=>.go (rRound (fun _=>false) 0 links r)) (fin:=id)
  (St:=fun i r e h=>(e 2=.t (.sc (.slice none 0 0))∧e 3=.t (.ip (tpC c1 c2 ⟨N,station,links⟩))∧e 7=.ms 0 N 0 N 1 true∧e 8=.t (I (i:Nat)))∧r.length=N∧∃ mr,mr≤N∧h=[.row 1 ((r.map B).map .t) mr])
  (Ex:=fun r x e h=>e 7=.ms 0 N 0 N 1 true∧r.length=N∧x=.exit 0∧∃ mr,mr≤N∧h=[.row 1 ((r.map B).map .t) mr]) (s:=r0) (by omega) ?_ ?_ (by omega) ?_ ?_
 ·intro i r e h Y R hi hlt hw ⟨hs',hr,mr,hmr,hh⟩ hk
  subst hh
  simp only [q01] at hk
  (repeat' first|simp only [il37l1_go,il37l1b,go_sem,hs',hlt]|with_reducible refine wX fun _=>?_|((with_reducible refine wY ?_ ?_); rfl)|fail)
  refine qg3 ⟨N,station,links⟩ hv hb c1 c2 N rfl (I (i:Nat)) r hr mr hmr _ _ (by omega) _ _ (by simp only [go_sem,hs']) ?_
  intro e' mr' hmr' he'
  (repeat' first|simp only [il37l1_go,il37l1b,go_sem,he',hw]|with_reducible refine wX fun _=>?_|((with_reducible refine wY ?_ ?_); rfl)|fail)
  all_goals (refine hk _ _ ⟨?_,by rw [q3r]; exact hr,mr',hmr',rfl⟩; simp only [go_sem,he',hw])
 ·intro r e h Y R hlt ⟨hs',hr,mr,hmr,hh⟩ hk
  subst hh
  (repeat' first|simp only [il37l1_go,il37l1b,go_sem,hs',hlt]|with_reducible refine wX fun _=>?_|((with_reducible refine wY ?_ ?_); rfl)|fail)
  all_goals (refine hk _ _ _ ⟨?_,hr,rfl,mr,hmr,rfl⟩; simp only [go_sem,hs'])
 ·refine ⟨?_,hl0,N,Nat.le_refl _,rfl⟩
  simp only [go_sem]
 ·intro x e h ⟨h1,hr,h2,mr,hmr,h3⟩
  have hf:∀ (n i:Nat) (r:List Bool),foldC (ρ:=List Bool) (fun (_:Nat) (_:Unit) r=>Ctl.go (rRound (fun _=>false) 0 links r)) id i (List.replicate n ()) r=rIter (fun _=>false) links n r:=by
   intro n
   induction n with
   | zero=>intro i r; rfl
   | succ n ih=>intro i r; rw [List.replicate_succ,q07 (s':=rRound (fun _=>false) 0 links r) rfl,ih]; rfl
  rw [hf] at hr h3
  subst h2 h3
  (repeat' first|simp only [il37c,go_sem,h1,hr,hmr]|with_reducible refine wX fun _=>?_|((with_reducible refine wY ?_ ?_); rfl)|fail)
end Go.Proofs.YtbibdnlbpjnieaaGreat
namespace Go.Proofs.YtbibdnlbpjnieaaGreat
open Go Go.Abs
theorem qg5 (l m:Lk):decide (m.a=l.a∧m.b=l.b∨m.a=l.b∧m.b=l.a)=joins l m:=by
 unfold joins
 refine decide_eq_decide.2 ⟨?_,?_⟩
 ·rintro (⟨h1,h2⟩|⟨h1,h2⟩)
  ·exact .inl ⟨h1.symm,h2.symm⟩
  ·exact .inr ⟨h2.symm,h1.symm⟩
 ·rintro (⟨h1,h2⟩|⟨h1,h2⟩)
  ·exact .inl ⟨h1.symm,h2.symm⟩
  ·exact .inr ⟨h2.symm,h1.symm⟩
theorem qg6 {t:Tpo} {l:Lk}:∀ i,i≤t.links.length→lk3 t i l=(List.range i).all (fun k=>!joins l (lnk t k)):=by
 intro i
 induction i with
 | zero=>intro _; simp [lk3]
 | succ i ih =>
  intro hi
  have h1:=ih (by omega)
  unfold lk3 at h1 ⊢
  have e:t.links.take (i+1)=t.links.take i++[lnk t i]:=by
   rw [List.take_add_one]; simp [lnk,show i < t.links.length by omega]
  rw [e,List.all_append,h1,List.range_succ,List.all_append]
  rfl
theorem foldC_all {f:Nat→Bool}:∀ (n i:Nat),foldC (ρ:=Bool) (fun k (_:Unit) (_:Unit)=>if f k=true then Ctl.go () else Ctl.out false) (fun _=>true) i (List.replicate n ()) ()=(List.range' i n).all f:=by
 intro n
 induction n with
 | zero=>intro i; rfl
 | succ n ih =>
  intro i
  rw [List.replicate_succ,List.range'_succ,List.all_cons]
  by_cases h:f i=true
  ·rw [q07 (s':=()) (if_pos h),ih,h,Bool.true_and]
  ·rw [q0N (r:=false) (if_neg h)]
   have:f i=false:=by simpa using h
   rw [this,Bool.false_and]
theorem qg7 (t:Tpo) (hb:t.links.length≤24) (c1 c2:Bool) (N:Nat) (i:Nat) (hi:i≤t.links.length) (l:Lk) (m:List Int) (mr:Nat)
  (J:Inl) (nn:Nat) (hn:100 < nn) (R:Xit→FEnv→Heap→Prop) (e:FEnv)
  (he:e 1=.t (.ip (tpC c1 c2 t))∧e 3=.ms 0 N 0 N 1 true∧e 4=.t (I (i:Nat))∧e 5=.ref 1 1 0 0∧e 6=.t (I 0))
  (hR1:lk3 t i l=true→∀ e,(e 1=.t (.ip (tpC c1 c2 t))∧e 3=.ms 0 N 0 N 1 true∧e 4=.t (I (i:Nat))∧e 5=.ref 1 1 0 0)→R (.exit 2) e [.row 1 ((m.map I).map .t) mr,.row 4 [.t (lkT l)] 1])
  (hR2:lk3 t i l=false→∀ e hh,e 2=.t (B false)→R .ret e hh) :
  wpIter 2 (some [1,3,4,5,6]) (wc Tryz.prog pol (ans Tryz.prog pol) J nn 9 il9l0) R nn e [.row 1 ((m.map I).map .t) mr,.row 4 [.t (lkT l)] 1]:=by
 refine q0r i (step:=fun k (_:Unit)=>if (!joins l (lnk t k))=true then Ctl.go () else Ctl.out false) (fin:=fun _=>true)
  (St:=fun k _ e h=>(e 1=.t (.ip (tpC c1 c2 t))∧e 3=.ms 0 N 0 N 1 true∧e 4=.t (I (i:Nat))∧e 5=.ref 1 1 0 0∧e 6=.t (I (k:Nat)))∧h=[.row 1 ((m.map I).map .t) mr,.row 4 [.t (lkT l)] 1])
  (Ex:=fun r x e h=>(r=true∧x=.exit 2∧(e 1=.t (.ip (tpC c1 c2 t))∧e 3=.ms 0 N 0 N 1 true∧e 4=.t (I (i:Nat))∧e 5=.ref 1 1 0 0)∧h=[.row 1 ((m.map I).map .t) mr,.row 4 [.t (lkT l)] 1])∨(r=false∧x=.ret∧e 2=.t (B false))) (s:=()) (by omega) ?_ ?_ (by omega) ⟨he,rfl⟩ ?_
 ·intro k _ e h Y R' hk1 hlt hw ⟨hs,hh⟩ hk
  subst hh
  have gx:(t.links.map encK)[k]? = some (lkT (lnk t k)):=by simp [lnk,show k < t.links.length by omega,encK]
  have k1:=qf0 (lnk t k) l.a l.b
  rw [qg5] at k1
  generalize joins l (lnk t k)=jb at *
  generalize lnk t k=x at *
  cases jb with
  | true =>
   rw [if_neg (by simp),q04] at hk
   (repeat' first|simp only [il9l0_go,il9l0b,go_sem,hs,gx,hlt,k1]|with_reducible refine wX fun _=>?_|((with_reducible refine wY ?_ ?_); rfl)|fail)
   all_goals (refine hk _ _ _ (.inr ⟨rfl,rfl,?_⟩); simp only [go_sem])
  | false =>
   rw [if_pos (by simp),q01] at hk
   (repeat' first|simp only [il9l0_go,il9l0b,go_sem,hs,gx,hlt,hw,k1]|with_reducible refine wX fun _=>?_|((with_reducible refine wY ?_ ?_); rfl)|fail)
   all_goals (refine hk _ _ ⟨?_,rfl⟩; simp only [go_sem,hs,hw])
 ·intro _ e h Y R' hlt ⟨hs,hh⟩ hk
  subst hh
  (repeat' first|simp only [il9l0_go,il9l0b,go_sem,hs,hlt]|with_reducible refine wX fun _=>?_|((with_reducible refine wY ?_ ?_); rfl)|fail)
  all_goals (refine hk _ _ _ (.inl ⟨rfl,rfl,?_,rfl⟩); simp only [go_sem,hs])
 ·intro x e h hx
  rw [foldC_all,← List.range_eq_range',← qg6 i hi] at hx
  rcases hx with ⟨h1,rfl,h2,rfl⟩|⟨h1,rfl,h2⟩
  ·exact hR1 h1 _ h2
  ·exact hR2 h1 _ _ h2
def rgOk (t:Tpo) (i:Nat) (l:Lk):Bool:=lkR t l && lk3 t i l
theorem q6y (t:Tpo) (i:Nat) (l:Lk):rgOk t i l=lkOk t i l:=by
 unfold rgOk lkR lkOk
 cases lk1 t l <;> cases lk2 t l <;> cases lk3 t i l <;> cases lk4 l <;> rfl
theorem qg8 {t:Tpo}:∀ (ls:List Lk) (i:Nat) (m:List Int),(∀ k,k < ls.length→ls[k]? = t.links[i+k]?)→foldC (ρ:=Option (List Int)) (fun i l m=>if rgOk t i l=true then Ctl.go (dStep m l) else Ctl.out none) some i ls m=if (List.range' i ls.length).all (fun k=>lkOk t k (lnk t k))=true then some (ls.foldl dStep m) else none:=by
 intro ls
 induction ls with
 | nil=>intro i m _; rfl
 | cons l ls ih =>
  intro i m h
  have h0:lnk t i=l:=by
   have:=h 0 (by simp)
   simp only [List.getElem?_cons_zero,Nat.add_zero] at this
   rw [lnk,← this]; rfl
  have ih:=ih (i+1) (dStep m l) (fun k hk=>by
   have:=h (k+1) (by simpa using hk)
   rw [List.getElem?_cons_succ] at this
   rw [this]; congr 1; omega)
  rw [List.length_cons,List.range'_succ,List.all_cons,h0,List.foldl_cons]
  by_cases q:rgOk t i l=true
  ·rw [q07 (s':=dStep m l) (if_pos q),ih]
   rw [q6y] at q
   rw [q,Bool.true_and]
  ·rw [q0N (r:=none) (if_neg q)]
   rw [q6y] at q
   have q:lkOk t i l=false:=by simpa using q
   rw [q,Bool.false_and]
   rfl
theorem qg9 (t:Tpo) (hz:(t.station.length:Int)=t.nodes) (hb:t.links.length≤24) (c1 c2:Bool) (N:Nat) (hN:(N:Int)=t.nodes) (nn dd:Nat) (hn:100 < nn) (R:Xit→FEnv→Heap→Prop) (e:FEnv)
  (he:e 1=.t (.ip (tpC c1 c2 t))∧e 3=.ms 0 N 0 N 1 true∧e 4=.t (I 0))
  (hR1:soundL t=true→∀ e mr,mr≤N→(e 1=.t (.ip (tpC c1 c2 t))∧e 3=.ms 0 N 0 N 1 true)→R (.exit 0) e [.row 1 (((t.links.foldl dStep (List.replicate N 0)).map I).map .t) mr])
  (hR2:soundL t=false→∀ e hh,e 2=.t (B false)→R .ret e hh) :
  wpIter 1 (some [1,3,4]) (wc Tryz.prog pol (ans Tryz.prog pol) (inl Tryz.prog pol (ans Tryz.prog pol) nn dd) nn 9 il9l1) R nn e [.row 1 (((List.replicate N (0:Int)).map I).map .t) 0]:=by
 refine q06 t.links encK (step:=fun i l m=>if rgOk t i l=true then Ctl.go (dStep m l) else Ctl.out none) (fin:=some)
  (St:=fun i m e h=>(e 1=.t (.ip (tpC c1 c2 t))∧e 3=.ms 0 N 0 N 1 true∧e 4=.t (I (i:Nat)))∧m.length=N∧(∀ x∈m,0≤x∧x≤2*(i:Int))∧∃ mr,mr≤N∧h=[.row 1 ((m.map I).map .t) mr])
  (Ex:=fun r x e h=>(∃ m,r=some m∧x=.exit 0∧(e 1=.t (.ip (tpC c1 c2 t))∧e 3=.ms 0 N 0 N 1 true)∧∃ mr,mr≤N∧h=[.row 1 ((m.map I).map .t) mr])∨(r=none∧x=.ret∧e 2=.t (B false))) (s:=List.replicate N 0) (by omega) ?_ ?_ (by omega) ⟨he,by simp,fun x hx=>by have:=(List.mem_replicate.1 hx).2; omega,0,by omega,rfl⟩ ?_
 ·intro i l m e h Y R' hm hi hx hget hlt hw ⟨hs,hl,hbd,mr,hmr,hh⟩ hk
  subst hh
  have k1:=qf1 c1 c2 t l hz
  have gx:(t.links.map encK)[i]? = some (lkT l):=hget
  cases hlr:lkR t l with
  | false =>
   rw [hlr] at k1
   rw [if_neg (by simp [rgOk,hlr]),q04] at hk
   (repeat' first|simp only [il9l1_go,il9l1b,go_sem,hs,gx,hlt,k1,hmr]|with_reducible refine wX fun _=>?_|((with_reducible refine wY ?_ ?_); rfl)|fail)
   all_goals (refine hk _ _ _ (.inr ⟨rfl,rfl,?_⟩); simp only [go_sem])
  | true =>
   rw [hlr] at k1
   (repeat' first|simp only [il9l1_go,il9l1b,go_sem,hs,gx,hlt,k1,hmr]|with_reducible refine wX fun _=>?_|((with_reducible refine wY ?_ ?_); rfl)|fail)
   refine qg7 t hb c1 c2 N i (by omega) l m mr _ _ hn _ _ (by simp only [go_sem,hs]) ?_ ?_
   ·intro h3 e1 he1
    rw [if_pos (by simp [rgOk,hlr,h3]),q01] at hk
    have hlk1:lk1 t l=true:=by simp only [lkR,Bool.and_eq_true] at hlr; exact hlr.1
    obtain ⟨p1,p2,p3⟩:=of_decide_eq_true hlk1
    have q1:0≤l.a:=p1.1
    have q2:0≤l.b:=p2.1
    have q3:l.a.toNat < N:=by have:=p1.2; omega
    have q4:l.b.toNat < N:=by have:=p2.2; omega
    have g1:=q1A (m:=m) (n:=l.a) (by omega)
    have b1:=iA_bd (n:=l.a) hbd (by omega)
    have s1:=map_set (enc:=I) (l:=m) (i:=l.a.toNat) (x:=iA m l.a+1)
    have bd1:=q2s (i:=l.a.toNat) (y:=iA m l.a+1) hbd (by omega)
    have w1:IntKind.i64.wrap (iA m l.a+1)=iA m l.a+1:=q09 (by omega) (by omega)
    have hl1:(m.set l.a.toNat (iA m l.a+1)).length=N:=by simpa using hl
    simp only [dStep] at hk
    generalize hm1:m.set l.a.toNat (iA m l.a+1)=m1 at *
    have g2:=q1A (m:=m1) (n:=l.b) (by omega)
    have b2:=iA_bd (n:=l.b) bd1 (by omega)
    have s2:=map_set (enc:=I) (l:=m1) (i:=l.b.toNat) (x:=iA m1 l.b+1)
    have bd2:=q2s (i:=l.b.toNat) (y:=iA m1 l.b+1) bd1 (by omega)
    have w2:IntKind.i64.wrap (iA m1 l.b+1)=iA m1 l.b+1:=q09 (by omega) (by omega)
    have hl2:(m1.set l.b.toNat (iA m1 l.b+1)).length=N:=by simpa using hl1
    generalize m1.set l.b.toNat (iA m1 l.b+1)=m2 at *
    generalize iA m1 l.b=z at *
    generalize iA m l.a=v at *
    (repeat' first|simp only [il9l1_go,il9l1b,go_sem,he1,hlt,hw,q1,q2,q3,q4,g1,s1,w1,g2,s2,w2,hl,hl1,hl2,hmr]|with_reducible refine wX fun _=>?_|((with_reducible refine wY ?_ ?_); rfl)|fail)
    all_goals (refine hk _ _ ⟨?_,hl2,fun x hx=>by have:=bd2 x hx; omega,N,Nat.le_refl _,?_⟩ <;> simp only [go_sem,he1,hw])
   ·intro h3 e1 hh he1
    rw [if_neg (by simp [rgOk,h3]),q04] at hk
    (repeat' first|simp only [il9l1_go,il9l1b,go_sem,he1]|with_reducible refine wX fun _=>?_|((with_reducible refine wY ?_ ?_); rfl)|fail)
    all_goals (refine hk _ _ _ (.inr ⟨rfl,rfl,?_⟩); simp only [go_sem,he1])
 ·intro m e h Y R' hlt ⟨hs,hl,hbd,mr,hmr,hh⟩ hk
  subst hh
  (repeat' first|simp only [il9l1_go,il9l1b,go_sem,hs,hlt]|with_reducible refine wX fun _=>?_|((with_reducible refine wY ?_ ?_); rfl)|fail)
  all_goals (refine hk _ _ _ (.inl ⟨m,rfl,rfl,?_,mr,hmr,rfl⟩); simp only [go_sem,hs])
 ·intro x e h hx
  rw [qg8 t.links 0 _ (fun k _=>by rw [Nat.zero_add]),← List.range_eq_range'] at hx
  change (∃ m,(if soundL t=true then _ else _)=some m∧_)∨_ at hx
  rcases hx with ⟨m,h1,rfl,h2,mr,hmr,rfl⟩|⟨h1,rfl,h2⟩
  ·by_cases q:soundL t=true
   ·rw [if_pos q] at h1
    obtain rfl:=Option.some.inj h1
    exact hR1 q _ mr hmr h2
   ·rw [if_neg q] at h1; cases h1
  ·refine hR2 ?_ _ _ h2
   cases q:soundL t with
   | false=>rfl
   | true =>
    have h1:(if soundL t=true then some (t.links.foldl dStep (List.replicate N 0)) else none)=none:=h1
    rw [if_pos q] at h1; cases h1
def rgN (t:Tpo) (m:List Int) (rl:List Bool) (n:Nat):Bool:=rl[n]?.getD false && !(stA t n && (decide (iA m (n:Nat) < 1) || decide (2 < iA m (n:Nat))))
theorem qga (t:Tpo) (hz:(t.station.length:Int)=t.nodes) (c1 c2:Bool) (N:Nat) (hN:(N:Int)=t.nodes) (h12:N≤12) (m:List Int) (hm:m.length=N) (rl:List Bool) (hrl:rl.length=N) (mr:Nat) (hmr:mr≤N) (J:Inl) (nn:Nat) (hn:100 < nn) (R:Xit→FEnv→Heap→Prop) (e:FEnv)
  (he:e 1=.t (.ip (tpC c1 c2 t))∧e 3=.ms 0 N 0 N 1 true∧e 7=.t (.sl true 1 (rl.map B))∧e 8=.t (I 0))
  (hR1:(List.range N).all (rgN t m rl)=true→∀ e hh,R (.exit 4) e hh)
  (hR2:(List.range N).all (rgN t m rl)=false→∀ e hh,e 2=.t (B false)→R .ret e hh) :
  wpIter 1 (some [1,3,7,8]) (wc Tryz.prog pol (ans Tryz.prog pol) J nn 9 il9l2) R nn e [.row 1 ((m.map I).map .t) mr]:=by
 refine q0r N (step:=fun n (_:Unit)=>if rgN t m rl n=true then Ctl.go () else Ctl.out false) (fin:=fun _=>true)
  (St:=fun n _ e h=>(e 1=.t (.ip (tpC c1 c2 t))∧e 3=.ms 0 N 0 N 1 true∧e 7=.t (.sl true 1 (rl.map B))∧e 8=.t (I (n:Nat)))∧h=[.row 1 ((m.map I).map .t) mr])
  (Ex:=fun r x e h=>(r=true∧x=.exit 4)∨(r=false∧x=.ret∧e 2=.t (B false))) (s:=()) (by omega) ?_ ?_ (by omega) ⟨he,rfl⟩ ?_
 ·intro n _ e h Y R' hi hlt hw ⟨hs,hh⟩ hk
  subst hh
  rw [hN] at hlt
  have gr:(rl.map B)[n]? = some (B (rl[n]?.getD false)):=by simp [show n < rl.length by omega]
  have gs:(t.station.map B)[n]? = some (B (stA t n)):=by simp [stA,show n < t.station.length by omega]
  have gm:=q1A (m:=m) (n:=(n:Nat)) (by omega)
  rw [Int.toNat_natCast] at gm
  unfold rgN at hk
  generalize rl[n]?.getD false=b1 at *
  generalize iA m (n:Nat)=v at *
  cases b1 with
  | false =>
   rw [if_neg (by simp),q04] at hk
   (repeat' first|simp only [il9l2_go,il9l2b,go_sem,hs,gr,hlt]|with_reducible refine wX fun _=>?_|((with_reducible refine wY ?_ ?_); rfl)|fail)
   all_goals (refine hk _ _ _ (.inr ⟨rfl,rfl,?_⟩); simp only [go_sem])
  | true =>
   cases hst:stA t n with
   | false =>
    rw [hst] at gs hk
    rw [if_pos (by simp),q01] at hk
    (repeat' first|simp only [il9l2_go,il9l2b,go_sem,hs,gr,gs,hlt,hw]|with_reducible refine wX fun _=>?_|((with_reducible refine wY ?_ ?_); rfl)|fail)
    all_goals (refine hk _ _ ⟨?_,rfl⟩; simp only [go_sem,hs,hw])
   | true =>
    rw [hst] at gs hk
    by_cases d1:v < 1
    ·have d1':decide (v < 1)=true:=decide_eq_true d1
     rw [if_neg (by simp [d1']),q04] at hk
     (repeat' first|simp only [il9l2_go,il9l2b,go_sem,hs,gr,gs,gm,hlt,hi,hm,hmr,d1']|with_reducible refine wX fun _=>?_|((with_reducible refine wY ?_ ?_); rfl)|fail)
     all_goals (refine hk _ _ _ (.inr ⟨rfl,rfl,?_⟩); simp only [go_sem])
    ·have d1':decide (v < 1)=false:=decide_eq_false d1
     by_cases d2:2 < v
     ·have d2':decide (2 < v)=true:=decide_eq_true d2
      rw [if_neg (by simp [d1',d2']),q04] at hk
      (repeat' first|simp only [il9l2_go,il9l2b,go_sem,hs,gr,gs,gm,hlt,hi,hm,hmr,d1',d2']|with_reducible refine wX fun _=>?_|((with_reducible refine wY ?_ ?_); rfl)|fail)
      all_goals (refine hk _ _ _ (.inr ⟨rfl,rfl,?_⟩); simp only [go_sem])
     ·have d2':decide (2 < v)=false:=decide_eq_false d2
      rw [if_pos (by simp [d1',d2']),q01] at hk
      (repeat' first|simp only [il9l2_go,il9l2b,go_sem,hs,gr,gs,gm,hlt,hw,hi,hm,hmr,d1',d2']|with_reducible refine wX fun _=>?_|((with_reducible refine wY ?_ ?_); rfl)|fail)
      all_goals (refine hk _ _ ⟨?_,rfl⟩; simp only [go_sem,hs,hw])
 ·intro _ e h Y R' hlt ⟨hs,hh⟩ hk
  subst hh
  have hlt:decide (((N:Nat):Int) < t.nodes)=false:=by rw [← hN]; exact hlt
  (repeat' first|simp only [il9l2_go,il9l2b,go_sem,hs,hlt]|with_reducible refine wX fun _=>?_|((with_reducible refine wY ?_ ?_); rfl)|fail)
  all_goals exact hk _ _ _ (.inl ⟨rfl,rfl⟩)
 ·intro x e h hx
  rw [foldC_all,← List.range_eq_range'] at hx
  rcases hx with ⟨h1,rfl⟩|⟨h1,rfl,h2⟩
  ·exact hR1 h1 _ _
  ·exact hR2 h1 _ _ h2
theorem qgb {t:Tpo} {N:Nat} {rl:List Bool} (hz:t.station.length=N) (hrl:rl.length=N):(List.range N).all (rgN t (degs t) rl)=(degOk t && !decide (false∈rl)):=by
 rw [Bool.eq_iff_iff]
 simp only [degOk,hz,List.all_eq_true,List.mem_range,Bool.and_eq_true,rgN,Bool.not_eq_true',decide_eq_false_iff_not,Bool.or_eq_true,decide_eq_true_eq,Bool.and_eq_false_iff,Bool.or_eq_false_iff]
 constructor
 ·intro h
  refine ⟨fun n hn=>?_,fun hm=>?_⟩
  ·rcases (h n hn).2 with h1|⟨h1,h2⟩
   ·exact .inl h1
   ·exact .inr (by omega)
  ·obtain ⟨n,hn,hv⟩:=List.getElem_of_mem hm
   have:=(h n (by omega)).1
   rw [List.getElem?_eq_getElem hn,hv] at this
   cases this
 ·rintro ⟨h1,h2⟩ n hn
  refine ⟨?_,?_⟩
  ·rw [List.getElem?_eq_getElem (by omega)]
   cases hv:rl[n]'(by omega) with
   | true=>rfl
   | false=>exact absurd (hv ▸ List.getElem_mem _) h2
  ·rcases h1 n hn with h|h
   ·exact .inl h
   ·exact .inr (by omega)
theorem qgc (c1 c2:Bool) (t:Tpo):ans Tryz.prog pol 9 [tpT c1 c2 t]=some (B (okT t)):=by
 by_cases h1:t.nodes < 2
 ·have e1:=decide_eq_true h1
  rw [show okT t=false by rw [okT,decide_eq_false (fun h=>by have:=h.1.1; omega)]; rfl]
  refine q00 1 1 il9_eq (Nat.le_of_ble_eq_true rfl) ?_
  (repeat' first|simp only [il9c,go_sem,e1]|with_reducible refine wX fun _=>?_|((with_reducible refine wY ?_ ?_); rfl)|fail)
 have e1:=decide_eq_false h1
 by_cases h2:12 < t.nodes
 ·have e2:=decide_eq_true h2
  rw [show okT t=false by rw [okT,decide_eq_false (fun h=>by have:=h.1.2; omega)]; rfl]
  refine q00 1 1 il9_eq (Nat.le_of_ble_eq_true rfl) ?_
  (repeat' first|simp only [il9c,go_sem,e1,e2]|with_reducible refine wX fun _=>?_|((with_reducible refine wY ?_ ?_); rfl)|fail)
 have e2:=decide_eq_false h2
 by_cases h3:(t.station.length:Int)=t.nodes
 rotate_left
 ·have e3:=decide_eq_false h3
  rw [show okT t=false by rw [okT,decide_eq_false (fun h=>h3 h.2.1)]; rfl]
  refine q00 1 1 il9_eq (Nat.le_of_ble_eq_true rfl) ?_
  (repeat' first|simp only [il9c,go_sem,e1,e2,e3]|with_reducible refine wX fun _=>?_|((with_reducible refine wY ?_ ?_); rfl)|fail)
 have e3:=decide_eq_true h3
 by_cases h4:(24:Int) < (t.links.length:Nat)
 ·have e4:=decide_eq_true h4
  rw [show okT t=false by rw [okT,decide_eq_false (fun h=>by have:=h.2.2; omega)]; rfl]
  refine q00 1 1 il9_eq (Nat.le_of_ble_eq_true rfl) ?_
  (repeat' first|simp only [il9c,go_sem,e1,e2,e3,e4]|with_reducible refine wX fun _=>?_|((with_reducible refine wY ?_ ?_); rfl)|fail)
 have e4:=decide_eq_false h4
 have hz:sizeP t:=⟨⟨by omega,by omega⟩,h3,by omega⟩
 obtain ⟨N,hN⟩:∃ N:Nat,(N:Int)=t.nodes:=⟨t.nodes.toNat,by omega⟩
 have hNn:t.nodes.toNat=N:=by omega
 have hroom:8*N≤roomB:=by rw [Nat.mul_comm]; exact q08 (by omega) (by omega)
 have hbig:N≤9223372036854775807:=by omega
 have hpos:0≤t.nodes:=by omega
 have hdeg:t.links.foldl dStep (List.replicate N 0)=degs t:=by rw [degs,hNn]
 have hdl:=q6i t
 rw [hNn] at hdl
 have hrl:=q2r t 0 (fun _=>false)
 rw [hNn] at hrl
 have ho:okT t=(soundL t && (degOk t && !(decide (false∈reachL t 0 (fun _=>false))))):=by rw [okT,decide_eq_true hz,Bool.true_and]
 have k2:soundL t=true→ans Tryz.prog pol 37 [tpT c1 c2 t,I 0,.sc (.slice none 0 0)]=some (.sl true 1 ((reachL t 0 (fun _=>false)).map B)):=fun hs=>qg4 c1 c2 t (q3s hs) (by omega) (by omega) 0 (by omega)
 rw [← qgb (by omega) hrl] at ho
 generalize reachL t 0 (fun _=>false)=rl at *
 have hmap:List.replicate N (AV.t (T.sc (Value.int IntKind.i64 0)))=((List.replicate N (0:Int)).map I).map .t:=by simp
 obtain ⟨nn,hn⟩:∃ nn,100 < nn:=⟨101,by omega⟩
 refine q00 nn 1 il9_eq (Nat.le_of_ble_eq_true rfl) ?_
 (repeat' first|simp only [il9c,go_sem,e1,e2,e3,e4,hroom,hbig,hpos,hNn]|with_reducible refine wX fun _=>?_|((with_reducible refine wY ?_ ?_); rfl)|fail)
 rw [hmap]
 refine qg9 t h3 (by omega) c1 c2 N hN _ _ hn _ _ (by simp only [go_sem]) ?_ ?_
 ·intro hs e mr hmr he
  rw [hdeg]
  have k2:=k2 hs
  rw [hs,Bool.true_and] at ho
  (repeat' first|simp only [il9c,go_sem,he,k2]|with_reducible refine wX fun _=>?_|((with_reducible refine wY ?_ ?_); rfl)|fail)
  refine qga t h3 c1 c2 N hN (by omega) (degs t) hdl rl hrl mr hmr _ _ hn _ _ (by simp only [go_sem,he]) ?_ ?_
  ·intro h5 e hh
   rw [ho,h5]
   (repeat' first|simp only [il9c,go_sem]|with_reducible refine wX fun _=>?_|((with_reducible refine wY ?_ ?_); rfl)|fail)
  ·intro h5 e hh he2
   rw [ho,h5]
   (repeat' first|simp only [il9c,go_sem,he2]|with_reducible refine wX fun _=>?_|((with_reducible refine wY ?_ ?_); rfl)|fail)
 ·intro hs e hh he2
  rw [ho,hs,Bool.false_and]
  (repeat' first|simp only [il9c,go_sem,he2]|with_reducible refine wX fun _=>?_|((with_reducible refine wY ?_ ?_); rfl)|fail)
end Go.Proofs.YtbibdnlbpjnieaaGreat
namespace Go.Proofs.YtbibdnlbpjnieaaGreat
open Go Go.Abs
theorem qgd (c c1 c2:Bool) (t:Tpo) (l:List Int) (hl:l.length≤900):ans Tryz.prog pol 11 [tpT c1 c2 t,.sl c 1 (l.map I)]=some (B (rankL t l)):=by
 refine q00 1000 1 il11_eq (Nat.le_of_ble_eq_true rfl) ?_
 by_cases h:(l.length:Int)=t.nodes
 rotate_left
 ·have d:=decide_eq_false h
  have hr:rankL t l=false:=by rw [rankL,d,Bool.false_and]
  rw [hr]
  (repeat' first|simp only [il11c,go_sem,d]|with_reducible refine wX fun _=>?_|((with_reducible refine wY ?_ ?_); rfl)|fail)
 have d:=decide_eq_true h
 have hr:rankL t l=l.all (fun p=>decide (0≤p∧p≤15)):=by rw [rankL,d,Bool.true_and]
 rw [hr]
 (repeat' first|simp only [il11c,go_sem,d]|with_reducible refine wX fun _=>?_|((with_reducible refine wY ?_ ?_); rfl)|fail)
 refine q06 l I (step:=fun i x (_:Unit)=>if decide (0≤x∧x≤15)=true then Ctl.go () else Ctl.out false) (fin:=fun _=>true)
  (St:=fun i _ e h=>(e 1=.t (.sl c 1 (l.map I))∧e 5=.t (I (i:Nat)))∧h=[])
  (Ex:=fun r x e h=>r=true∧x=.exit 0∨r=false∧x=.ret∧e 4=.t (B false)) (s:=()) (by omega) ?_ ?_ (by omega) ?_ ?_
 ·intro i x _ e h Y R hm hi hx hget hlt hw ⟨hs,hh⟩ hk
  subst hh
  by_cases g1:x < 0
  ·have e1:=decide_eq_true g1
   rw [if_neg (by rw [decide_eq_true_eq]; omega),q04] at hk
   (repeat' first|simp only [il11l0_go,il11l0b,go_sem,hs,hget,hlt,e1]|with_reducible refine wX fun _=>?_|((with_reducible refine wY ?_ ?_); rfl)|fail)
   all_goals (refine hk _ _ _ (.inr ⟨rfl,rfl,?_⟩); simp only [go_sem])
  ·have e1:=decide_eq_false g1
   by_cases g2:15 < x
   ·have e2:=decide_eq_true g2
    rw [if_neg (by rw [decide_eq_true_eq]; omega),q04] at hk
    (repeat' first|simp only [il11l0_go,il11l0b,go_sem,hs,hget,hlt,e1,e2]|with_reducible refine wX fun _=>?_|((with_reducible refine wY ?_ ?_); rfl)|fail)
    all_goals (refine hk _ _ _ (.inr ⟨rfl,rfl,?_⟩); simp only [go_sem])
   ·have e2:=decide_eq_false g2
    rw [if_pos (by rw [decide_eq_true_eq]; omega),q01] at hk
    (repeat' first|simp only [il11l0_go,il11l0b,go_sem,hs,hget,hlt,hw,e1,e2]|with_reducible refine wX fun _=>?_|((with_reducible refine wY ?_ ?_); rfl)|fail)
    all_goals (refine hk _ _ ⟨?_,rfl⟩; simp only [go_sem,hs,hw])
 ·intro _ e h Y R hlt ⟨hs,hh⟩ hk
  subst hh
  (repeat' first|simp only [il11l0_go,il11l0b,go_sem,hs,hlt]|with_reducible refine wX fun _=>?_|((with_reducible refine wY ?_ ?_); rfl)|fail)
  all_goals (refine hk _ _ _ (.inl ?_); simp only [go_sem])
 ·refine ⟨?_,rfl⟩
  simp only [go_sem]
 ·intro x e h hx
  have hf:∀ (l:List Int) (i:Nat),foldC (fun i x (_:Unit)=>if decide (0≤x∧x≤15)=true then Ctl.go () else Ctl.out false) (fun _=>true) i l ()=l.all (fun p=>decide (0≤p∧p≤15)):=by
   intro l
   induction l with
   | nil=>intro i; rfl
   | cons x l ih =>
    intro i
    rw [List.all_cons]
    by_cases q:decide (0≤x∧x≤15)=true
    ·rw [q07 (s':=()) (if_pos q),ih,q,Bool.true_and]
    ·rw [q0N (r:=false) (if_neg q)]
     have q:decide (0≤x∧x≤15)=false:=by simpa using q
     rw [q,Bool.false_and]
  rw [hf] at hx
  rcases hx with ⟨hb,rfl⟩|⟨hb,rfl,e2⟩
  ·rw [hb]
   (repeat' first|simp only [il11c,go_sem]|with_reducible refine wX fun _=>?_|((with_reducible refine wY ?_ ?_); rfl)|fail)
  ·rw [hb]
   (repeat' first|simp only [il11c,go_sem,e2]|with_reducible refine wX fun _=>?_|((with_reducible refine wY ?_ ?_); rfl)|fail)
end Go.Proofs.YtbibdnlbpjnieaaGreat
namespace Go.Proofs.YtbibdnlbpjnieaaGreat
open Go Go.Abs
def sentOk (w:Nw) (S:List (Option (List Hd))):Prop:=S.length=w.bs.length∧∀ n,n < w.bs.length→stA w.t n=false→∃ hs,S[n]? = some (some hs)∧hs.length=(trunkL w.t n).length∧∀ h∈hs,h.is=true→helloP h
def rcvN (w:Nw) (S:List (Option (List Hd))) (s:List Bx × Nat) (n:Nat):List Bx × Nat :=
 (List.range ((S[n]?.getD none).getD []).length).foldl (fun s i=>rcvQ w s ((trunkL w.t n)[i]?.getD 0) (((S[n]?.getD none).getD [])[i]?.getD zH)) s
abbrev sentT (S:List (Option (List Hd))):T:=.sl true 1 (S.map encS)
theorem qge {w:Nw} {s:List Bx × Nat} (h:vBs w s.1) (h2:s.2≤w.bs.length) {p:Nat} {m:Hd} (hm:m.is=true→helloP m) (hp:stA w.t (toP w.t p).toNat=false):vBs w (rcvQ w s p m).1∧(rcvQ w s p m).2≤w.bs.length:=by
 refine ⟨q3E h hm hp,?_⟩
 unfold rcvQ
 dsimp only
 split <;> omega
theorem q6z {w:Nw} {S:List (Option (List Hd))} (hS:sentOk w S) {s:List Bx × Nat} (h:vBs w s.1) (h2:s.2≤w.bs.length) {n:Nat} (hn:n < w.bs.length) (hst:stA w.t n=false):vBs w (rcvN w S s n).1∧(rcvN w S s n).2≤w.bs.length:=by
 obtain ⟨hs,h1,hl,hh⟩:=hS.2 n hn hst
 rw [rcvN,h1]
 simp only [Option.getD_some]
 have key:∀ (k:Nat),k≤hs.length→vBs w ((List.range k).foldl (fun s i=>rcvQ w s ((trunkL w.t n)[i]?.getD 0) (hs[i]?.getD zH)) s).1∧((List.range k).foldl (fun s i=>rcvQ w s ((trunkL w.t n)[i]?.getD 0) (hs[i]?.getD zH)) s).2≤w.bs.length:=by
  intro k
  induction k with
  | zero=>intro _; exact ⟨h,h2⟩
  | succ k ih =>
   intro hk
   obtain ⟨i1,i2⟩:=ih (by omega)
   rw [List.range_succ,List.foldl_append,List.foldl_cons,List.foldl_nil]
   obtain ⟨p,hp⟩:∃ p,(trunkL w.t n)[k]? = some p:=⟨(trunkL w.t n)[k]'(by omega),by simp [show k < (trunkL w.t n).length by omega]⟩
   obtain ⟨x,hx⟩:∃ x,hs[k]? = some x:=⟨hs[k]'(by omega),by simp [show k < hs.length by omega]⟩
   rw [hp,hx]
   exact qge i1 i2 (hh x (List.mem_of_getElem? hx)) (qij.1 (List.mem_of_getElem? hp)).2.2
 exact key hs.length (Nat.le_refl _)
theorem qgf (rf:Code × Code) (hrf:rfOf Tryz.prog 60 0=rf) (w:Nw) (hok:okT w.t=true) (hd:w.down.length=w.t.links.length) (hbl:(w.bs.length:Int)=w.t.nodes) (S:List (Option (List Hd))) (hS:sentOk w S)
  (E:FEnv) (hE:E 1=.ref 8 1 0 0∧E 2=.ref 9 1 0 0) (s:List Bx × Nat) (hv:vBs w s.1) (hmr:s.2≤w.bs.length) (n:Nat) (x:Bx) (hx:s.1[n]? = some x) (hst:stA w.t n=false) (dd nn:Nat) (hn:200 < nn) (Q:AV→Heap→Prop)
  (hQ:∀ X',Q (.t (B true)) (hpRc w (sentT S) rf E false (rcvN w S s n)++[.row 5 [.t (.agg (bxC x))] 1]++X')) :
  oB (inl Tryz.prog pol (ans Tryz.prog pol) nn (dd+1) (.yl 11) [.t (I (n:Nat)),.t (.agg (bxC x))] (hpRc w (sentT S) rf E false s++[.row 5 [.t (.agg (bxC x))] 1])) Q:=by
 subst hrf
 obtain ⟨xz,xv⟩:=hv.2 n x hx hst
 obtain ⟨z,c1,c2,c3,b⟩:=x
 dsimp only at xz xv hQ
 subst xz
 have hbc:bxC ⟨false,c1,c2,c3,b⟩=brC c1 c2 c3 b:=rfl
 rw [hbc] at hQ ⊢
 have hnl:n < w.bs.length:=by rw [← hv.1]; exact (List.getElem?_eq_some_iff.1 hx).1
 obtain ⟨hs,hs1,hsl,hsh⟩:=hS.2 n hnl hst
 have gs:(S.map encS)[n]? = some (.sl true 8 (hs.map encH)):=by rw [List.getElem?_map,hs1]; rfl
 have hcs:(T.sl true 8 (hs.map encH)).cells=[.sl true 8 (hs.map encH)]:=rfl
 have hr:rcvN w S s n=(List.range hs.length).foldl (fun s i=>rcvQ w s ((trunkL w.t n)[i]?.getD 0) (hs[i]?.getD zH)) s:=by rw [rcvN,hs1]; rfl
 have hq:=hQ [.row 5 [.t (.agg (brC c1 c2 c3 b))] 1]
 rw [hr] at hq
 have key:([.row 6 [.t zN6] 0,.row 3 [.t stepsT] 1,.row 6 [.agg (nwA 3 5 w)] 1,dnRow w,.row 6 [.agg (nwA 3 5 w)] 1,bsRow s.1 s.2,.row 7 [.agg (nwA 3 5 w++[.t (sentT S)])] 1,.row 1 [.t (.agg [.fn (.func 60) [] []])] 1,
  .row 1 [.ref 6 1 0 0] 0,.row 1 [.t (I 0)] 0,.row 6 [.agg (nwA 3 5 w)] 0,.loop 60 (lpEnv 100 (tidyF (some [1,2]) E)) [17,18] (rfOf Tryz.prog 60 0).1 (rfOf Tryz.prog 60 0).2 true none,.row 5 [.t (.agg (brC c1 c2 c3 b))] 1,.row 5 [.t (.agg (brC c1 c2 c3 b))] 1]:Heap)
   = hpRc w (sentT S) (rfOf Tryz.prog 60 0) E true s++[.row 5 [.t (.agg (brC c1 c2 c3 b))] 1,.row 5 [.t (.agg (brC c1 c2 c3 b))] 1]:=rfl
 have hR:=fun (R:Xit→FEnv→Heap→Prop) (e:FEnv) he hR=>qfV w hok hd hbl (sentT S) (rfOf Tryz.prog 60 0) E hE c1 c2 c3 b n xv.ports hst hs hsl hsh s hv hmr dd nn hn R e he hR
 rw [← key] at hR
 generalize (List.range hs.length).foldl (fun s i=>rcvQ w s ((trunkL w.t n)[i]?.getD 0) (hs[i]?.getD zH)) s=s2 at *
 simp only [hpRc,rdH,lpRc,List.cons_append,List.nil_append,nwA,bsRow,dnRow] at hq hR ⊢
 refine oB_yl (E:=tidyF (some [1,2]) E) rfl rfl rfl il60r0a_eq il60r0b_eq ?_
 (repeat' first|simp only [il60r0a,il60r0b,go_sem,hE,gs,hcs]|with_reducible refine wX fun _=>?_|((with_reducible refine wY ?_ ?_); rfl)|fail)
 refine hR _ _ (by simp only [go_sem,hE]) ?_
 intro e he
 (repeat' first|simp only [il60r0b,go_sem,he]|with_reducible refine wX fun _=>?_|((with_reducible refine wY ?_ ?_); rfl)|fail)
 all_goals exact hq
theorem qgg {w:Nw} {nx:List Bx × Nat→Nat→List Bx × Nat} (hnx:∀ s n,n < w.bs.length→stA w.t n=false→vBs w s.1∧s.2≤w.bs.length→vBs w (nx s n).1∧(nx s n).2≤w.bs.length) {s:List Bx × Nat} {n:Nat} (hn:n < w.bs.length) (h:vBs w s.1∧s.2≤w.bs.length):vBs w (stS w.t nx s n).1∧(stS w.t nx s n).2≤w.bs.length:=by
 unfold stS
 by_cases q:stA w.t n=true
 ·rw [if_pos q]; exact h
 ·rw [if_neg q]; exact hnx s n hn (by simpa using q) h
theorem q2A {w:Nw} {nx:List Bx × Nat→Nat→List Bx × Nat} (hnx:∀ s n,n < w.bs.length→stA w.t n=false→vBs w s.1∧s.2≤w.bs.length→vBs w (nx s n).1∧(nx s n).2≤w.bs.length) {s:List Bx × Nat} (h:vBs w s.1∧s.2≤w.bs.length):∀ k,k≤w.bs.length→vBs w ((List.range k).foldl (stS w.t nx) s).1∧((List.range k).foldl (stS w.t nx) s).2≤w.bs.length:=by
 intro k
 induction k with
 | zero=>intro _; exact h
 | succ k ih =>
  intro hk
  rw [List.range_succ,List.foldl_append,List.foldl_cons,List.foldl_nil]
  exact qgg hnx (by omega) (ih (by omega))
theorem qgh (w:Nw) (hok:okT w.t=true) (hd:w.down.length=w.t.links.length) (hbl:(w.bs.length:Int)=w.t.nodes) (S:List (Option (List Hd))) (hS:sentOk w S) (bs:List Bx) (mr:Nat) (hmr:mr≤w.bs.length) (hv:vBs w bs) (dd nn:Nat) (hn:200 < nn) (Q:AV→Heap→Prop)
  (hQ:Q (.t (I 0)) (rdH w ((List.range w.bs.length).foldl (stS w.t (rcvN w S)) (bs,mr)).1 ((List.range w.bs.length).foldl (stS w.t (rcvN w S)) (bs,mr)).2 (.t (sentT S)) 60++[.row 1 [.ref 6 1 0 0] 0,.row 1 [.t (I 0)] 1,.row 6 [.agg (nwA 3 5 w)] 0])) :
  oB (inl Tryz.prog pol (ans Tryz.prog pol) nn (dd+3) (.fn 60) [.ref 6 1 0 0] (rdH w bs mr (.t (sentT S)) 60)) Q:=by
 obtain ⟨z1,z2,z3⟩:=q02 hok
 refine q0b il60_eq (Nat.le_of_ble_eq_true rfl) ?_
 simp only [il60c]
 generalize hrf:rfOf Tryz.prog 60 0=rf
 simp only [rdH,nwA]
 (repeat' first|simp only [List.cons_append,List.nil_append,go_sem]|with_reducible refine wX fun _=>?_|((with_reducible refine wY ?_ ?_); rfl)|((with_reducible refine q0b il31_eq ?_ ?_); exact Nat.le_of_ble_eq_true rfl; simp only [il31c])|fail)
 have key:∀ E:FEnv,([.row 6 [.t zN6] 0,.row 3 [.t stepsT] 1,.row 6 [.agg (nwA 3 5 w)] 1,dnRow w,.row 6 [.agg (nwA 3 5 w)] 1,bsRow bs mr,.row 7 [.agg (nwA 3 5 w++[.t (sentT S)])] 1,.row 1 [.t (.agg [.fn (.func 60) [] []])] 1,
  .row 1 [.ref 6 1 0 0] 0,.row 1 [.t (I 0)] 0,.row 6 [.agg (nwA 3 5 w)] 0,.loop 60 (lpEnv 100 (tidyF (some [1,2]) E)) [17,18] rf.1 rf.2 false none]:Heap)=hpRc w (sentT S) rf E false (bs,mr):=fun E=>rfl
 simp only [nwA,List.cons_append,List.nil_append] at key
 rw [key]
 have h1112:11 < 12:=by omega
 have h1012:10 < 12:=by omega
 have h512:5 < 12:=by omega
 have h01:0≤1:=by omega
 have hI0:vBs w (bs,mr).1∧(bs,mr).2≤w.bs.length:=⟨hv,hmr⟩
 have hb100:w.bs.length≤100:=by omega
 have hnx:∀ (s:List Bx × Nat) n,n < w.bs.length→stA w.t n=false→vBs w s.1∧s.2≤w.bs.length→vBs w (rcvN w S s n).1∧(rcvN w S s n).2≤w.bs.length:=fun s n hn hs h=>q6z hS h.1 h.2 hn hs
 have hfold:=q2A hnx hI0 w.bs.length (Nat.le_refl _)
 -- the state,held to what is valid
 let σ:={ s:List Bx × Nat // vBs w s.1∧s.2≤w.bs.length }
 let nx:σ→Nat→σ:=fun s n=>if h:n < w.bs.length∧stA w.t n=false then ⟨rcvN w S s.1 n,hnx s.1 n h.1 h.2 s.2⟩ else s
 have hnxv:∀ (s:σ) n,n < w.bs.length→stA w.t n=false→(nx s n).1=rcvN w S s.1 n:=fun s n h1 h2=>by simp only [nx]; rw [dif_pos ⟨h1,h2⟩]
 have hstv:∀ (s:σ) n,n < w.bs.length→(stS w.t nx s n).1=stS w.t (rcvN w S) s.1 n:=fun s n h1=>by
  unfold stS
  by_cases q:stA w.t n=true
  ·rw [if_pos q,if_pos q]
  ·rw [if_neg q,if_neg q]; exact hnxv s n h1 (by simpa using q)
 have hfv:∀ (s:σ) k,k≤w.bs.length→((List.range k).foldl (stS w.t nx) s).1=(List.range k).foldl (stS w.t (rcvN w S)) s.1:=by
  intro s k
  induction k with
  | zero=>intro _; rfl
  | succ k ih =>
   intro hk
   rw [List.range_succ,List.foldl_append,List.foldl_append,List.foldl_cons,List.foldl_cons,List.foldl_nil,List.foldl_nil,hstv _ _ (by omega),ih (by omega)]
 have hLs:∀ s:σ,s.1.1.length=w.bs.length:=fun s=>by have h:=s.2.1; unfold vBs at h; exact h.1
 have hs0:∀ E:FEnv,hpRc w (sentT S) rf E false (bs,mr)=(fun s:σ=>hpRc w (sentT S) rf E false s.1) ⟨(bs,mr),hI0⟩:=fun E=>rfl
 rw [hs0]
 with_reducible refine q1Z (fun s:σ=>hpRc w (sentT S) rf _ false s.1) 12 (fun s=>rfl) nx (dd+1) nn 11 (fun n s=>True) w (fun _ _ _ _=>trivial) ?_ h1112 10 3 5 0 h1012 h01 h512 (fun s=>s.1.1) (fun s=>s.1.2) hLs (fun s=>s.2.2) (fun _ _=>rfl) (fun _ _=>rfl) z2 hbl hb100 ?_ ⟨(bs,mr),hI0⟩ trivial _ hn ?_
 ·intro s h q hq
  exact qfU w (sentT S) rf _ (by simp only [go_sem]) false s.1 h q hq
 ·intro s n x Q hx hs _ hQ
  have hnl:n < w.bs.length:=by rw [← hLs s]; exact (List.getElem?_eq_some_iff.1 hx).1
  have hQ':∀ X',Q (.t (B true)) (hpRc w (sentT S) rf _ false (nx s n).1++[.row 5 [.t (.agg (bxC x))] 1]++X'):=hQ
  rw [hnxv s n hnl hs] at hQ'
  exact qgf rf hrf w hok hd hbl S hS _ (by simp only [go_sem]) s.1 s.2.1 s.2.2 n x hx hs dd nn hn Q hQ'
 ·intro v
  change rfEnd _ _ _ v (hpRc w (sentT S) rf _ false ((List.range w.bs.length).foldl (stS w.t nx) ⟨(bs,mr),hI0⟩).1)
  rw [hfv _ _ (Nat.le_refl _)]
  generalize (List.range w.bs.length).foldl (stS w.t (rcvN w S)) (bs,mr)=s at *
  simp only [hpRc,rdH,lpRc,List.cons_append,List.nil_append,nwA,bsRow,dnRow] at hQ ⊢
  (repeat' first|simp only [il60c,go_sem,q0a]|with_reducible refine wX fun _=>?_|((with_reducible refine wY ?_ ?_); rfl)|fail)
  all_goals exact hQ
end Go.Proofs.YtbibdnlbpjnieaaGreat
namespace Go.Proofs.YtbibdnlbpjnieaaGreat
open Go Go.Abs
def tkB (b:Br):Bx:=⟨false,true,true,true,putB b (b.heard.map tickH)⟩
def tkN (w:Nw) (s:List Bx × Nat) (n:Nat):List Bx × Nat:=(s.1.set n (tkB (s.1[n]?.getD zBx).b),w.bs.length)
theorem VB.tick {w:Nw} {n:Nat} {b:Br} (h:VB w n b):VB w n (putB b (b.heard.map tickH)):=by
 refine h.put (by simp) fun x hx=>?_
 obtain ⟨y,hy,rfl⟩:=List.mem_map.1 hx
 exact qfQ (q3D h.ok y hy)
theorem q6A {w:Nw} {s:List Bx × Nat} (h:vBs w s.1) (h2:s.2≤w.bs.length) {n:Nat} (hn:n < w.bs.length) (hst:stA w.t n=false):vBs w (tkN w s n).1∧(tkN w s n).2≤w.bs.length:=by
 refine ⟨⟨by simp [tkN,h.1],fun m x hx hs=>?_⟩,Nat.le_refl _⟩
 simp only [tkN,List.getElem?_set] at hx
 split at hx
 ·rename_i hm
  split at hx
  ·rename_i hlt
   obtain rfl:=Option.some.inj hx
   subst hm
   obtain ⟨y,hy⟩:∃ y,s.1[n]? = some y:=⟨s.1[n]'hlt,by simp [hlt]⟩
   obtain ⟨_,hv⟩:=h.2 n y hy hst
   rw [hy]
   exact ⟨rfl,hv.tick⟩
  ·cases hx
 ·exact h.2 m x hx hs
noncomputable def lpTk (rf:Code × Code) (E:FEnv) (busy:Bool):AObj:=.loop 61 (lpEnv 31 (tidyF (some [1,2]) E)) [12,13] rf.1 rf.2 busy none
noncomputable def hpTk (w:Nw) (sent:T) (rf:Code × Code) (E:FEnv) (s:List Bx × Nat):Heap :=
 rdH w s.1 s.2 (.t sent) 61++[.row 1 [.ref 6 1 0 0] 0,.row 1 [.t (I 0)] 0,.row 6 [.agg (nwA 3 5 w)] 0,lpTk rf E false]
theorem qgi (w:Nw) (sent:T) (rf:Code × Code) (E:FEnv) (hE:E 1=.ref 8 1 0 0∧E 2=.ref 9 1 0 0) (s:List Bx × Nat) (h:Heap) (q:Nat) (hq:12≤q):mapO (frzObj h (fromB q)) (hpTk w sent rf E s)=some (hpTk w sent rf E s):=by
 have f8:decide (q≤8)=false:=decide_eq_false (by omega)
 have f9:decide (q≤9)=false:=decide_eq_false (by omega)
 have f3:decide (q≤3)=false:=decide_eq_false (by omega)
 have f5:decide (q≤5)=false:=decide_eq_false (by omega)
 have f6:decide (q≤6)=false:=decide_eq_false (by omega)
 have h1:frzObj h (fromB q) (lpTk rf E false)=some (lpTk rf E false):=by
  rw [lpTk,q0y]
  simp only [go_sem,hE,f8,f9]
 have a1:avoidAll (fromB q) [.agg (nwA 3 5 w)]=true:=by simp [nwA,avoidAll,avoid,fromB,f3,f5]
 have a2:avoidAll (fromB q) [.agg (nwA 3 5 w++[.t sent])]=true:=by simp [nwA,avoidAll,avoid,fromB,f3,f5]
 have a3:avoidAll (fromB q) [.ref 6 1 0 0]=true:=by simp [avoidAll,avoid,fromB,f6]
 have a4:∀ x:T,avoidAll (fromB q) [.t x]=true:=fun x=>by simp [avoidAll,avoid]
 simp only [hpTk,rdH,List.cons_append,List.nil_append,dnRow,bsRow,mapO,h1,q0a,q0h a1,q0h a2,q0h a3,q0h (a4 _)]
theorem qgj (rf:Code × Code) (hrf:rfOf Tryz.prog 61 0=rf) (w:Nw) (hb100:w.bs.length≤100) (sent:T)
  (E:FEnv) (hE:E 1=.ref 8 1 0 0∧E 2=.ref 9 1 0 0) (s:List Bx × Nat) (hv:vBs w s.1) (hmr:s.2≤w.bs.length) (n:Nat) (x:Bx) (hx:s.1[n]? = some x) (hst:stA w.t n=false) (dd nn:Nat) (hn:200 < nn) (Q:AV→Heap→Prop)
  (hQ:∀ X',Q (.t (B true)) (hpTk w sent rf E (tkN w s n)++[.row 5 [.t (.agg (bxC x))] 1]++X')) :
  oB (inl Tryz.prog pol (ans Tryz.prog pol) nn (dd+1) (.yl 11) [.t (I (n:Nat)),.t (.agg (bxC x))] (hpTk w sent rf E s++[.row 5 [.t (.agg (bxC x))] 1])) Q:=by
 subst hrf
 obtain ⟨xz,xv⟩:=hv.2 n x hx hst
 have hnl:n < w.bs.length:=by rw [← hv.1]; exact (List.getElem?_eq_some_iff.1 hx).1
 obtain ⟨z,c1,c2,c3,b⟩:=x
 dsimp only at xz xv hQ
 subst xz
 have hbc:bxC ⟨false,c1,c2,c3,b⟩=brC c1 c2 c3 b:=rfl
 rw [hbc] at hQ ⊢
 have k1:=qfe (c1:=c1) (c2:=c2) (c3:=c3) (b:=b) xv.ok
 have hb5:(T.agg (brC c1 c2 c3 b)).cells=brC c1 c2 c3 b:=rfl
 have hset:=map_set (enc:=encX) (l:=s.1) (i:=n) (x:=tkB b)
 have hex:encX (tkB b)=brT true true true (putB b (b.heard.map tickH)):=rfl
 rw [hex] at hset
 have hsl:((s.1.map encX).map AV.t).length=w.bs.length:=by simp [hv.1]
 have gx:((s.1.map encX).map AV.t)[n]? = some (.t (.agg (brC c1 c2 c3 b))):=q0c (enc:=encX) hx
 have hr:tkN w s n=(s.1.set n (tkB b),w.bs.length):=by rw [tkN,hx]; rfl
 have hav:∀ (q:Nat→Bool) (y:T),avoidAll q (((s.1.map encX).map AV.t).set n (.t y))=true:=fun q y=>by rw [← List.map_set,q0l]
 have hq:=hQ
 rw [hr] at hq
 simp only [hpTk,rdH,lpTk,List.cons_append,List.nil_append,nwA,bsRow,dnRow] at hq ⊢
 rw [← hset] at hq
 generalize putB b (b.heard.map tickH)=B' at *
 refine oB_yl (E:=tidyF (some [1,2]) E) rfl rfl rfl il61r0a_eq il61r0b_eq ?_
 (repeat' first|simp only [il61r0a,il61r0b,go_sem,hE,k1,hb5,gx,hsl,hnl,hmr,hav]|with_reducible refine wX fun _=>?_|((with_reducible refine wY ?_ ?_); rfl)|fail)
 all_goals exact hq _
theorem qgk (w:Nw) (hok:okT w.t=true) (hbl:(w.bs.length:Int)=w.t.nodes) (sent:T) (bs:List Bx) (mr:Nat) (hmr:mr≤w.bs.length) (hv:vBs w bs) (dd nn:Nat) (hn:200 < nn) (Q:AV→Heap→Prop)
  (hQ:Q (.t (I 0)) (rdH w ((List.range w.bs.length).foldl (stS w.t (tkN w)) (bs,mr)).1 ((List.range w.bs.length).foldl (stS w.t (tkN w)) (bs,mr)).2 (.t sent) 61++[.row 1 [.ref 6 1 0 0] 0,.row 1 [.t (I 0)] 1,.row 6 [.agg (nwA 3 5 w)] 0])) :
  oB (inl Tryz.prog pol (ans Tryz.prog pol) nn (dd+3) (.fn 61) [.ref 6 1 0 0] (rdH w bs mr (.t sent) 61)) Q:=by
 obtain ⟨z1,z2,z3⟩:=q02 hok
 refine q0b il61_eq (Nat.le_of_ble_eq_true rfl) ?_
 simp only [il61c]
 generalize hrf:rfOf Tryz.prog 61 0=rf
 simp only [rdH,nwA]
 (repeat' first|simp only [List.cons_append,List.nil_append,go_sem]|with_reducible refine wX fun _=>?_|((with_reducible refine wY ?_ ?_); rfl)|((with_reducible refine q0b il31_eq ?_ ?_); exact Nat.le_of_ble_eq_true rfl; simp only [il31c])|fail)
 have key:∀ E:FEnv,([.row 6 [.t zN6] 0,.row 3 [.t stepsT] 1,.row 6 [.agg (nwA 3 5 w)] 1,dnRow w,.row 6 [.agg (nwA 3 5 w)] 1,bsRow bs mr,.row 7 [.agg (nwA 3 5 w++[.t sent])] 1,.row 1 [.t (.agg [.fn (.func 61) [] []])] 1,
  .row 1 [.ref 6 1 0 0] 0,.row 1 [.t (I 0)] 0,.row 6 [.agg (nwA 3 5 w)] 0,.loop 61 (lpEnv 31 (tidyF (some [1,2]) E)) [12,13] rf.1 rf.2 false none]:Heap)=hpTk w sent rf E (bs,mr):=fun E=>rfl
 simp only [nwA,List.cons_append,List.nil_append] at key
 rw [key]
 have h1112:11 < 12:=by omega
 have h1012:10 < 12:=by omega
 have h512:5 < 12:=by omega
 have h01:0≤1:=by omega
 have hI0:vBs w (bs,mr).1∧(bs,mr).2≤w.bs.length:=⟨hv,hmr⟩
 have hb100:w.bs.length≤100:=by omega
 have hnx:∀ (s:List Bx × Nat) n,n < w.bs.length→stA w.t n=false→vBs w s.1∧s.2≤w.bs.length→vBs w (tkN w s n).1∧(tkN w s n).2≤w.bs.length:=fun s n hn hs h=>q6A h.1 h.2 hn hs
 let σ:={ s:List Bx × Nat // vBs w s.1∧s.2≤w.bs.length }
 let nx:σ→Nat→σ:=fun s n=>if h:n < w.bs.length∧stA w.t n=false then ⟨tkN w s.1 n,hnx s.1 n h.1 h.2 s.2⟩ else s
 have hnxv:∀ (s:σ) n,n < w.bs.length→stA w.t n=false→(nx s n).1=tkN w s.1 n:=fun s n h1 h2=>by simp only [nx]; rw [dif_pos ⟨h1,h2⟩]
 have hstv:∀ (s:σ) n,n < w.bs.length→(stS w.t nx s n).1=stS w.t (tkN w) s.1 n:=fun s n h1=>by
  unfold stS
  by_cases q:stA w.t n=true
  ·rw [if_pos q,if_pos q]
  ·rw [if_neg q,if_neg q]; exact hnxv s n h1 (by simpa using q)
 have hfv:∀ (s:σ) k,k≤w.bs.length→((List.range k).foldl (stS w.t nx) s).1=(List.range k).foldl (stS w.t (tkN w)) s.1:=by
  intro s k
  induction k with
  | zero=>intro _; rfl
  | succ k ih =>
   intro hk
   rw [List.range_succ,List.foldl_append,List.foldl_append,List.foldl_cons,List.foldl_cons,List.foldl_nil,List.foldl_nil,hstv _ _ (by omega),ih (by omega)]
 have hLs:∀ s:σ,s.1.1.length=w.bs.length:=fun s=>by have h:=s.2.1; unfold vBs at h; exact h.1
 have hs0:∀ E:FEnv,hpTk w sent rf E (bs,mr)=(fun s:σ=>hpTk w sent rf E s.1) ⟨(bs,mr),hI0⟩:=fun E=>rfl
 rw [hs0]
 with_reducible refine q1Z (fun s:σ=>hpTk w sent rf _ s.1) 12 (fun s=>rfl) nx (dd+1) nn 11 (fun n s=>True) w (fun _ _ _ _=>trivial) ?_ h1112 10 3 5 0 h1012 h01 h512 (fun s=>s.1.1) (fun s=>s.1.2) hLs (fun s=>s.2.2) (fun _ _=>rfl) (fun _ _=>rfl) z2 hbl hb100 ?_ ⟨(bs,mr),hI0⟩ trivial _ hn ?_
 ·intro s h q hq
  exact qgi w sent rf _ (by simp only [go_sem]) s.1 h q hq
 ·intro s n x Q hx hs _ hQ
  have hnl:n < w.bs.length:=by rw [← hLs s]; exact (List.getElem?_eq_some_iff.1 hx).1
  have hQ':∀ X',Q (.t (B true)) (hpTk w sent rf _ (nx s n).1++[.row 5 [.t (.agg (bxC x))] 1]++X'):=hQ
  rw [hnxv s n hnl hs] at hQ'
  exact qgj rf hrf w hb100 sent _ (by simp only [go_sem]) s.1 s.2.1 s.2.2 n x hx hs dd nn hn Q hQ'
 ·intro v
  change rfEnd _ _ _ v (hpTk w sent rf _ ((List.range w.bs.length).foldl (stS w.t nx) ⟨(bs,mr),hI0⟩).1)
  rw [hfv _ _ (Nat.le_refl _)]
  generalize (List.range w.bs.length).foldl (stS w.t (tkN w)) (bs,mr)=s at *
  simp only [hpTk,rdH,lpTk,List.cons_append,List.nil_append,nwA,bsRow,dnRow] at hQ ⊢
  (repeat' first|simp only [il61c,go_sem,q0a]|with_reducible refine wX fun _=>?_|((with_reducible refine wY ?_ ?_); rfl)|fail)
  all_goals exact hQ
end Go.Proofs.YtbibdnlbpjnieaaGreat
namespace Go.Proofs.YtbibdnlbpjnieaaGreat
open Go Go.Abs
def OpI (b:Br) (s:Os'):Prop:=s.t=tp0 b∨∃ i,i < b.heard.length∧leads b i=true∧s.t=⟨(ofr b i).a,(ofr b i).b,(ofr b i).c,i,(ofr b i).g⟩
theorem q6B (b:Br):OpI b (opF b):=by
 have key:∀ (l:List Nat) (s:Os'),(∀ i∈l,i < b.heard.length)→OpI b s→OpI b (l.foldl (ldS b (opS b)) s):=by
  intro l
  induction l with
  | nil=>intro s _ h; exact h
  | cons i l ih =>
   intro s hl h
   refine ih _ (fun j hj=>hl j (List.mem_cons_of_mem _ hj)) ?_
   unfold ldS
   split
   ·rename_i hld
    unfold opS
    split
    ·exact .inr ⟨i,hl i (by simp),hld,rfl⟩
    ·exact h
   ·exact h
 exact key _ _ (fun i hi=>by simpa using hi) (.inl rfl)
end Go.Proofs.YtbibdnlbpjnieaaGreat
