/- Part 16 of the proof of TreeTells. -/
import Derived.Test.YtbibdnlbpjnieaaGreatT15
set_option linter.all false
set_option maxRecDepth 100000
set_option maxHeartbeats 4000000
namespace Go.Proofs.YtbibdnlbpjnieaaGreat
open Go Go.Abs
theorem sto_B:∀ cs:List Bool,storableAll ((cs.map B).map AV.t)=true:=by
 intro cs
 induction cs with
 | nil=>rfl
 | cons c cs ih=>simp only [List.map_cons,q5J,ih]; rfl
theorem qeJ (c1 c2:Bool) (t:Tpo) (hv:∀ l∈t.links,endsP t l) (hb:t.links.length≤24) (hn:0≤t.nodes∧t.nodes≤100) (s:Nat) (hs:(s:Int) < t.nodes) (cs:List Bool) (hcs:cs.length=24) :
  ans Tryz.prog pol 69 [tpT c1 c2 t,I (s:Nat),.agg (cs.map B)]=some (.sl true 1 ((reachL t s (fun i=>cs[i]?.getD false)).map B)):=by
 obtain ⟨nodes,station,links⟩:=t
 dsimp only at hv hb hn hs
 obtain ⟨N,rfl⟩:∃ N:Nat,nodes=(N:Int):=⟨nodes.toNat,by omega⟩
 have hNn:((N:Nat):Int).toNat=N:=by omega
 have hsN:s < N:=by omega
 have hroom:1*N≤roomB:=by rw [Nat.mul_comm]; exact q08 (by omega) (by omega)
 have hbig:N≤9223372036854775807:=by omega
 have hlen:=q2r ⟨N,station,links⟩ s (fun i=>cs[i]?.getD false)
 dsimp only at hlen
 rw [hNn] at hlen
 simp only [reachL,hNn] at hlen ⊢
 have hset:=map_set (enc:=B) (l:=List.replicate N false) (i:=s) (x:=true)
 simp only [List.map_replicate] at hset
 have hs0:((List.replicate N (AV.t (B false))))[s]? = some (.t (B false)):=by simp [hsN]
 have hl0:((List.replicate N false).set s true).length=N:=by simp
 generalize hr0:(List.replicate N false).set s true=r0 at *
 clear hr0
 have hsto:=sto_B cs
 refine q00 1000 1 il69_eq (Nat.le_of_ble_eq_true rfl) ?_
 (repeat' first|simp only [il69c,go_sem,hroom,hbig,hsN,hs0,hset,hsto,List.length_replicate]|with_reducible refine wX fun _=>?_|((with_reducible refine wY ?_ ?_); rfl)|fail)
 refine q0r N (step:=fun i r=>.go (rRound (fun i=>cs[i]?.getD false) 0 links r)) (fin:=id)
  (St:=fun i r e h=>(e 3=.t (.ip (tpC c1 c2 ⟨N,station,links⟩))∧e 5=.t (.ip (cs.map B))∧e 7=.ms 0 N 0 N 1 true∧e 17=.t (I (N:Nat))∧e 18=.t (I (i:Nat)))∧r.length=N∧∃ mr,mr≤N∧h=[.row 1 ((r.map B).map .t) mr])
  (Ex:=fun r x e h=>e 7=.ms 0 N 0 N 1 true∧r.length=N∧x=.exit 0∧∃ mr,mr≤N∧h=[.row 1 ((r.map B).map .t) mr]) (s:=r0) (by omega) ?_ ?_ (by omega) ?_ ?_
 ·intro i r e h Y R hi hlt hw ⟨hs',hr,mr,hmr,hh⟩ hk
  subst hh
  simp only [q01] at hk
  (repeat' first|simp only [il69l1_go,il69l1b,go_sem,hs',hlt]|with_reducible refine wX fun _=>?_|((with_reducible refine wY ?_ ?_); rfl)|fail)
  refine qeI ⟨N,station,links⟩ hv hb cs hcs c1 c2 N rfl (I (N:Nat)) (I (i:Nat)) r hr mr hmr _ _ (by omega) _ _ (by simp only [go_sem,hs']) ?_
  intro e' mr' hmr' he'
  (repeat' first|simp only [il69l1_go,il69l1b,go_sem,he',hw]|with_reducible refine wX fun _=>?_|((with_reducible refine wY ?_ ?_); rfl)|fail)
  all_goals (refine hk _ _ ⟨?_,by rw [q3r]; exact hr,mr',hmr',rfl⟩; simp only [go_sem,he',hw])
 ·intro r e h Y R hlt ⟨hs',hr,mr,hmr,hh⟩ hk
  subst hh
  (repeat' first|simp only [il69l1_go,il69l1b,go_sem,hs',hlt]|with_reducible refine wX fun _=>?_|((with_reducible refine wY ?_ ?_); rfl)|fail)
  all_goals (refine hk _ _ _ ⟨?_,hr,rfl,mr,hmr,rfl⟩; simp only [go_sem,hs'])
 ·refine ⟨?_,hl0,N,Nat.le_refl _,rfl⟩
  simp only [go_sem]
 ·intro x e h ⟨h1,hr,h2,mr,hmr,h3⟩
  have hf:∀ (n i:Nat) (r:List Bool),foldC (ρ:=List Bool) (fun (_:Nat) (_:Unit) r=>Ctl.go (rRound (fun i=>cs[i]?.getD false) 0 links r)) id i (List.replicate n ()) r=rIter (fun i=>cs[i]?.getD false) links n r:=by
   intro n
   induction n with
   | zero=>intro i r; rfl
   | succ n ih=>intro i r; rw [List.replicate_succ,q07 (s':=rRound (fun i=>cs[i]?.getD false) 0 links r) rfl,ih]; rfl
  rw [hf] at hr h3
  subst h2 h3
  (repeat' first|simp only [il69c,go_sem,h1,hr,hmr]|with_reducible refine wX fun _=>?_|((with_reducible refine wY ?_ ?_); rfl)|fail)
def idxL {α:Type} [DecidableEq α] (v:α):Nat→List α→Int
 | _,[]=>-1
 | i,x::r=>if x=v then (i:Nat) else idxL v (i+1) r
theorem qeK {α:Type} [DecidableEq α] {v:α}:∀ {l:List α} {i:Nat},v ∉ l→idxL v i l = -1:=by
 intro l
 induction l with
 | nil=>intro i _; rfl
 | cons x l ih =>
  intro i h
  rw [idxL,if_neg (fun e=>h (by simp [e])),ih (fun hm=>h (by simp [hm]))]
theorem qeL {α:Type} [DecidableEq α] {v:α}:∀ {l:List α} {i:Nat},v∈l→(i:Int)≤idxL v i l:=by
 intro l
 induction l with
 | nil=>intro i h; cases h
 | cons x l ih =>
  intro i h
  rw [idxL]
  split
  ·omega
  ·rename_i hx
   have:v∈l:=by
    cases h with
    | head=>exact absurd rfl hx
    | tail _ h=>exact h
   have:=ih (i:=i+1) this
   omega
theorem q6g (c:Bool) (l:List Int) (v:Int) (hl:l.length≤900):ans Tryz.prog pol 44 [.sl c 1 (l.map I),I v]=some (I (idxL v 0 l)):=by
 refine q00 1000 1 il44_eq (Nat.le_of_ble_eq_true rfl) ?_
 (repeat' first|simp only [il44c,go_sem]|with_reducible refine wX fun _=>?_|((with_reducible refine wY ?_ ?_); rfl)|fail)
 refine q06 l I (step:=fun i x (_:Unit)=>if x=v then Ctl.out ((i:Nat):Int) else Ctl.go ()) (fin:=fun _=>-1)
  (St:=fun i _ e h=>(e 0=.t (.sl c 1 (l.map I))∧e 1=.t (I v)∧e 7=.t (I (l.length:Nat))∧e 8=.t (I (i:Nat)))∧h=[])
  (Ex:=fun r x e h=>r = -1∧x=.exit 0∨x=.ret∧e 4=.t (I r)) (s:=()) (by omega) ?_ ?_ (by omega) ?_ ?_
 ·intro i x _ e h Y R hm hi hx hget hlt hw ⟨hs,hh⟩ hk
  subst hh
  by_cases q:x=v
  ·have d:decide (v=x)=true:=decide_eq_true q.symm
   rw [if_pos q,q04] at hk
   (repeat' first|simp only [il44l0_go,il44l0b,go_sem,hs,hget,hlt,d]|with_reducible refine wX fun _=>?_|((with_reducible refine wY ?_ ?_); rfl)|fail)
   all_goals (refine hk _ _ _ (.inr ?_); simp only [go_sem])
  ·have d:decide (v=x)=false:=decide_eq_false (fun e=>q e.symm)
   rw [if_neg q,q01] at hk
   (repeat' first|simp only [il44l0_go,il44l0b,go_sem,hs,hget,hlt,hw,d]|with_reducible refine wX fun _=>?_|((with_reducible refine wY ?_ ?_); rfl)|fail)
   all_goals (refine hk _ _ ⟨?_,rfl⟩; simp only [go_sem,hs,hw])
 ·intro _ e h Y R hlt ⟨hs,hh⟩ hk
  subst hh
  (repeat' first|simp only [il44l0_go,il44l0b,go_sem,hs,hlt]|with_reducible refine wX fun _=>?_|((with_reducible refine wY ?_ ?_); rfl)|fail)
  all_goals (refine hk _ _ _ (.inl ?_); simp only [go_sem])
 ·simp only [go_sem]
 ·intro x e h hx
  have hf:∀ (l:List Int) (i:Nat) (u:Unit),foldC (fun i x (_:Unit)=>if x=v then Ctl.out ((i:Nat):Int) else Ctl.go ()) (fun _=>-1) i l u=idxL v i l:=by
   intro l
   induction l with
   | nil=>intro i u; rfl
   | cons x l ih =>
    intro i u
    rw [idxL]
    by_cases q:x=v
    ·rw [q0N (r:=((i:Nat):Int)) (by rw [if_pos q]),if_pos q]
    ·rw [q07 (s':=()) (by rw [if_neg q]),ih,if_neg q]
  rw [hf] at hx
  rcases hx with ⟨hb,rfl⟩|⟨rfl,e2⟩
  ·rw [hb]
   (repeat' first|simp only [il44c,go_sem]|with_reducible refine wX fun _=>?_|((with_reducible refine wY ?_ ?_); rfl)|fail)
  ·(repeat' first|simp only [il44c,go_sem,e2]|with_reducible refine wX fun _=>?_|((with_reducible refine wY ?_ ?_); rfl)|fail)
theorem qeM (c:Bool) (l:List Bool) (hl:l.length≤900):ans Tryz.prog pol 110 [.sl c 1 (l.map B),B false]=some (I (idxL false 0 l)):=by
 refine q00 1000 1 il110_eq (Nat.le_of_ble_eq_true rfl) ?_
 (repeat' first|simp only [il110c,go_sem]|with_reducible refine wX fun _=>?_|((with_reducible refine wY ?_ ?_); rfl)|fail)
 refine q06 l B (step:=fun i x (_:Unit)=>if x=false then Ctl.out ((i:Nat):Int) else Ctl.go ()) (fin:=fun _=>-1)
  (St:=fun i _ e h=>(e 0=.t (.sl c 1 (l.map B))∧e 1=.t (B false)∧e 7=.t (I (l.length:Nat))∧e 8=.t (I (i:Nat)))∧h=[])
  (Ex:=fun r x e h=>r = -1∧x=.exit 0∨x=.ret∧e 4=.t (I r)) (s:=()) (by omega) ?_ ?_ (by omega) ?_ ?_
 ·intro i x _ e h Y R hm hi hx hget hlt hw ⟨hs,hh⟩ hk
  subst hh
  cases x with
  | false =>
   rw [if_pos rfl,q04] at hk
   (repeat' first|simp only [il110l0_go,il110l0b,go_sem,hs,hget,hlt]|with_reducible refine wX fun _=>?_|((with_reducible refine wY ?_ ?_); rfl)|fail)
   all_goals (refine hk _ _ _ (.inr ?_); simp only [go_sem])
  | true =>
   rw [if_neg (by simp),q01] at hk
   (repeat' first|simp only [il110l0_go,il110l0b,go_sem,hs,hget,hlt,hw]|with_reducible refine wX fun _=>?_|((with_reducible refine wY ?_ ?_); rfl)|fail)
   all_goals (refine hk _ _ ⟨?_,rfl⟩; simp only [go_sem,hs,hw])
 ·intro _ e h Y R hlt ⟨hs,hh⟩ hk
  subst hh
  (repeat' first|simp only [il110l0_go,il110l0b,go_sem,hs,hlt]|with_reducible refine wX fun _=>?_|((with_reducible refine wY ?_ ?_); rfl)|fail)
  all_goals (refine hk _ _ _ (.inl ?_); simp only [go_sem])
 ·simp only [go_sem]
 ·intro x e h hx
  have hf:∀ (l:List Bool) (i:Nat) (u:Unit),foldC (fun i x (_:Unit)=>if x=false then Ctl.out ((i:Nat):Int) else Ctl.go ()) (fun _=>-1) i l u=idxL false i l:=by
   intro l
   induction l with
   | nil=>intro i u; rfl
   | cons x l ih =>
    intro i u
    rw [idxL]
    by_cases q:x=false
    ·rw [q0N (r:=((i:Nat):Int)) (by rw [if_pos q]),if_pos q]
    ·rw [q07 (s':=()) (by rw [if_neg q]),ih,if_neg q]
  rw [hf] at hx
  rcases hx with ⟨hb,rfl⟩|⟨rfl,e2⟩
  ·rw [hb]
   (repeat' first|simp only [il110c,go_sem]|with_reducible refine wX fun _=>?_|((with_reducible refine wY ?_ ?_); rfl)|fail)
  ·(repeat' first|simp only [il110c,go_sem,e2]|with_reducible refine wX fun _=>?_|((with_reducible refine wY ?_ ?_); rfl)|fail)
theorem qeN (c:Bool) (l:List Bool) (hl:l.length≤900):ans Tryz.prog pol 68 [.sl c 1 (l.map B),B false]=some (B (decide (false∈l))):=by
 have k1:=qeM c l hl
 have d:decide (0≤idxL false 0 l)=decide (false∈l):=by
  by_cases h:false∈l
  ·have:=qeL (i:=0) h
   rw [decide_eq_true h,decide_eq_true (by omega:0≤idxL false 0 l)]
  ·rw [decide_eq_false h,qeK h]; rfl
 refine q00 1 1 il68_eq (Nat.le_of_ble_eq_true rfl) ?_
 (repeat' first|simp only [il68c,go_sem,k1,d]|with_reducible refine wX fun _=>?_|((with_reducible refine wY ?_ ?_); rfl)|fail)
end Go.Proofs.YtbibdnlbpjnieaaGreat
namespace Go.Proofs.YtbibdnlbpjnieaaGreat
open Go Go.Abs
def iA (m:List Int) (n:Int):Int:=m[n.toNat]?.getD 0
def dStep (m:List Int) (l:Lk):List Int :=
 let m1:=m.set l.a.toNat (iA m l.a+1)
 m1.set l.b.toNat (iA m1 l.b+1)
def degs (t:Tpo):List Int:=t.links.foldl dStep (List.replicate t.nodes.toNat 0)
def degOk (t:Tpo):Bool:=(List.range t.station.length).all (fun n=>!(stA t n) || decide (1≤iA (degs t) (n:Nat)∧iA (degs t) (n:Nat)≤2))
def sizeP (t:Tpo):Prop:=(2≤t.nodes∧t.nodes≤12)∧(t.station.length:Int)=t.nodes∧t.links.length≤24
instance (t:Tpo):Decidable (sizeP t):=inferInstanceAs (Decidable (_∧_))
def okT (t:Tpo):Bool:=decide (sizeP t) && (soundL t && (degOk t && !(decide (false∈reachL t 0 (fun _=>false)))))
theorem q6h {t:Tpo} (h:soundL t=true) {i:Nat} (hi:i < t.links.length):lkOk t i (lnk t i)=true:=List.all_eq_true.1 h i (by simp [hi])
theorem q3s {t:Tpo} (h:soundL t=true):∀ l∈t.links,endsP t l:=by
 intro l hl
 obtain ⟨i,hi,rfl⟩:=List.mem_iff_getElem.1 hl
 have:=q6h h hi
 simp only [lkOk,Bool.and_eq_true] at this
 have h1:=of_decide_eq_true this.1
 simpa [lnk,hi,endsP] using h1
theorem q1A {m:List Int} {n:Int} (h:n.toNat < m.length):((m.map I).map AV.t)[n.toNat]? = some (.t (I (iA m n))):=q0c (enc:=I) (by simp only [iA]; rw [List.getElem?_eq_getElem h]; rfl)
theorem iA_bd {m:List Int} {n:Int} {lo hi:Int} (h:∀ x∈m,lo≤x∧x≤hi) (h0:lo≤0∧0≤hi):lo≤iA m n∧iA m n≤hi:=by
 simp only [iA]
 cases hq:m[n.toNat]? with
 | none=>exact h0
 | some x=>exact h x (List.mem_of_getElem? hq)
theorem q2s {m:List Int} {i:Nat} {y lo hi:Int} (h:∀ x∈m,lo≤x∧x≤hi) (hy:lo≤y∧y≤hi+1):∀ x∈m.set i y,lo≤x∧x≤hi+1:=by
 intro x hx
 rcases List.mem_or_eq_of_mem_set hx with h1|rfl
 ·have:=h x h1; omega
 ·exact hy
theorem qeO {c1 c2:Bool} {t:Tpo} (h:¬ sizeP t):ans Tryz.prog pol 28 [tpT c1 c2 t]=some (I 260):=by
 refine q00 1 1 il28_eq (Nat.le_of_ble_eq_true rfl) ?_
 simp only [sizeP] at h
 by_cases h1:t.nodes < 2
 ·have e1:=decide_eq_true h1
  (repeat' first|simp only [il28c,go_sem,e1]|with_reducible refine wX fun _=>?_|((with_reducible refine wY ?_ ?_); rfl)|fail)
 have e1:=decide_eq_false h1
 by_cases h2:12 < t.nodes
 ·have e2:=decide_eq_true h2
  (repeat' first|simp only [il28c,go_sem,e1,e2]|with_reducible refine wX fun _=>?_|((with_reducible refine wY ?_ ?_); rfl)|fail)
 have e2:=decide_eq_false h2
 by_cases h3:(t.station.length:Int)=t.nodes
 rotate_left
 ·have e3:=decide_eq_false h3
  (repeat' first|simp only [il28c,go_sem,e1,e2,e3]|with_reducible refine wX fun _=>?_|((with_reducible refine wY ?_ ?_); rfl)|fail)
 have e3:=decide_eq_true h3
 have e4:decide ((24:Int) < (t.links.length:Nat))=true:=decide_eq_true (by omega)
 (repeat' first|simp only [il28c,go_sem,e1,e2,e3,e4]|with_reducible refine wX fun _=>?_|((with_reducible refine wY ?_ ?_); rfl)|fail)
theorem qeP (t:Tpo) (hv:∀ l∈t.links,endsP t l) (hb:t.links.length≤24) (N:Nat) (hN:(N:Int)=t.nodes) (x1:T) (c2:Bool) (J:Inl) (nn:Nat) (hn:100 < nn) (R:Xit→FEnv→Heap→Prop) (e:FEnv)
  (he:e 1=.t x1∧e 3=.ms 0 N 0 N 1 true∧e 37=.t (.sl c2 4 (t.links.map encK))∧e 38=.t (I (t.links.length:Nat))∧e 39=.t (I 0))
  (hR:∀ e mr,mr≤N→(e 1=.t x1∧e 3=.ms 0 N 0 N 1 true)→R (.exit 0) e [.row 1 (((t.links.foldl dStep (List.replicate N 0)).map I).map .t) mr]) :
  wpIter 1 (some [1,3,37,38,39]) (wc Tryz.prog pol (ans Tryz.prog pol) J nn 28 il28l0) R nn e [.row 1 (((List.replicate N (0:Int)).map I).map .t) 0]:=by
 refine q06 t.links encK (step:=fun i l m=>.go (dStep m l)) (fin:=id)
  (St:=fun i m e h=>(e 1=.t x1∧e 3=.ms 0 N 0 N 1 true∧e 37=.t (.sl c2 4 (t.links.map encK))∧e 38=.t (I (t.links.length:Nat))∧e 39=.t (I (i:Nat)))∧m.length=N∧(∀ x∈m,0≤x∧x≤2*(i:Int))∧∃ mr,mr≤N∧h=[.row 1 ((m.map I).map .t) mr])
  (Ex:=fun m x e h=>(e 1=.t x1∧e 3=.ms 0 N 0 N 1 true)∧x=.exit 0∧∃ mr,mr≤N∧h=[.row 1 ((m.map I).map .t) mr]) (s:=List.replicate N 0) (by omega) ?_ ?_ (by omega) ⟨he,by simp,fun x hx=>by have:=(List.mem_replicate.1 hx).2; omega,0,by omega,rfl⟩ ?_
 ·intro i l m e h Y R hm hi hx hget hlt hw ⟨hs,hl,hbd,mr,hmr,hh⟩ hk
  subst hh
  simp only [q01] at hk
  obtain ⟨p1,p2,p3⟩:=hv l hm
  have q1:0≤l.a:=p1.1
  have q2:0≤l.b:=p2.1
  have q3:l.a.toNat < N:=by omega
  have q4:l.b.toNat < N:=by omega
  have g1:=q1A (m:=m) (n:=l.a) (by omega)
  have b1:=iA_bd (n:=l.a) hbd (by omega)
  have s1:=map_set (enc:=I) (l:=m) (i:=l.a.toNat) (x:=iA m l.a+1)
  have bd1:=q2s (i:=l.a.toNat) (y:=iA m l.a+1) hbd (by omega)
  have w1:IntKind.i64.wrap (iA m l.a+1)=iA m l.a+1:=q09 (by omega) (by omega)
  have hl1:(m.set l.a.toNat (iA m l.a+1)).length=N:=by simpa using hl
  simp only [dStep] at hk
  generalize hm1:m.set l.a.toNat (iA m l.a+1)=m1 at *
  have g2:=q1A (m:=m1) (n:=l.b) (by omega)
  have b2:=iA_bd (n:=l.b) bd1 (by omega)
  have s2:=map_set (enc:=I) (l:=m1) (i:=l.b.toNat) (x:=iA m1 l.b+1)
  have bd2:=q2s (i:=l.b.toNat) (y:=iA m1 l.b+1) bd1 (by omega)
  have w2:IntKind.i64.wrap (iA m1 l.b+1)=iA m1 l.b+1:=q09 (by omega) (by omega)
  have hl2:(m1.set l.b.toNat (iA m1 l.b+1)).length=N:=by simpa using hl1
  generalize m1.set l.b.toNat (iA m1 l.b+1)=m2 at *
  generalize iA m1 l.b=z at *
  generalize iA m l.a=v at *
  (repeat' first|simp only [il28l0_go,il28l0b,go_sem,hs,hget,q0k,hlt,hw,q1,q2,q3,q4,g1,s1,w1,g2,s2,w2,hl,hl1,hl2,hmr]|with_reducible refine wX fun _=>?_|((with_reducible refine wY ?_ ?_); rfl)|fail)
  all_goals (refine hk _ _ ⟨?_,hl2,fun x hx=>by have:=bd2 x hx; omega,N,Nat.le_refl _,?_⟩ <;> simp only [go_sem,hs,hw])
 ·intro m e h Y R hlt ⟨hs,hl,hbd,mr,hmr,hh⟩ hk
  subst hh
  (repeat' first|simp only [il28l0_go,il28l0b,go_sem,hs,hlt]|with_reducible refine wX fun _=>?_|((with_reducible refine wY ?_ ?_); rfl)|fail)
  all_goals (refine hk _ _ _ ⟨?_,rfl,mr,hmr,rfl⟩; simp only [go_sem,hs,id])
 ·intro x e h ⟨h1,h2,mr,hmr,h3⟩
  rw [q5V] at h3
  subst h2 h3
  exact hR _ mr hmr h1
theorem q6i (t:Tpo):(degs t).length=t.nodes.toNat:=by
 have:∀ (ls:List Lk) (m:List Int),(ls.foldl dStep m).length=m.length:=by
  intro ls
  induction ls with
  | nil=>intro m; rfl
  | cons l ls ih=>intro m; rw [List.foldl_cons,ih]; simp [dStep]
 rw [degs,this]; simp
theorem qeQ (t:Tpo) (hl:t.station.length=(degs t).length) (hl2:t.station.length≤100) (N:Nat) (hN:N=(degs t).length) (mr:Nat) (hmr:mr≤N) (x1:T) (c1:Bool) (J:Inl) (nn:Nat) (hn:100 < nn) (R:Xit→FEnv→Heap→Prop) (e:FEnv)
  (he:e 1=.t x1∧e 3=.ms 0 N 0 N 1 true∧e 59=.t (.sl c1 1 (t.station.map B))∧e 60=.t (I (t.station.length:Nat))∧e 61=.t (I 0))
  (h1:degOk t=true→∀ e h,e 1=.t x1→R (.exit 2) e h) (h2:degOk t=false→∀ e h,e 2=.t (I 260)→R .ret e h) :
  wpIter 1 (some [1,3,59,60,61]) (wc Tryz.prog pol (ans Tryz.prog pol) J nn 28 il28l1) R nn e [.row 1 (((degs t).map I).map .t) mr]:=by
 refine q06 t.station B (step:=fun n _ (_:Unit)=>if (!(stA t n) || decide (1≤iA (degs t) (n:Nat)∧iA (degs t) (n:Nat)≤2))=true then Ctl.go () else Ctl.out false) (fin:=fun _=>true)
  (St:=fun i _ e h=>(e 1=.t x1∧e 3=.ms 0 N 0 N 1 true∧e 59=.t (.sl c1 1 (t.station.map B))∧e 60=.t (I (t.station.length:Nat))∧e 61=.t (I (i:Nat)))∧h=[.row 1 (((degs t).map I).map .t) mr])
  (Ex:=fun r x e h=>r=true∧x=.exit 2∧e 1=.t x1∨r=false∧x=.ret∧e 2=.t (I 260)) (s:=()) (by omega) ?_ ?_ (by omega) ⟨he,rfl⟩ ?_
 ·intro i b _ e h Y R hm hi hx hget hlt hw ⟨hs,hh⟩ hk
  subst hh
  have hb:stA t i=b:=by simp [stA,hx]
  rw [hb] at hk
  have hiN:i < N:=by omega
  have g1:=q1A (m:=degs t) (n:=(i:Nat)) (by rw [Int.toNat_natCast]; omega)
  rw [Int.toNat_natCast] at g1
  have hlN:(degs t).length=N:=hN.symm
  generalize iA (degs t) (i:Nat)=v at *
  cases b with
  | false =>
   rw [if_pos (by simp),q01] at hk
   (repeat' first|simp only [il28l1_go,il28l1b,go_sem,hs,hget,hlt,hw]|with_reducible refine wX fun _=>?_|((with_reducible refine wY ?_ ?_); rfl)|fail)
   all_goals (refine hk _ _ ⟨?_,rfl⟩; simp only [go_sem,hs,hw])
  | true =>
   by_cases q1:v < 1
   ·have d1:=decide_eq_true q1
    rw [if_neg (by simp; omega),q04] at hk
    (repeat' first|simp only [il28l1_go,il28l1b,go_sem,hs,hget,hlt,hw,hiN,g1,hlN,hmr,d1]|with_reducible refine wX fun _=>?_|((with_reducible refine wY ?_ ?_); rfl)|fail)
    all_goals (refine hk _ _ _ (.inr ?_); simp only [go_sem])
   ·have d1:=decide_eq_false q1
    by_cases q2:2 < v
    ·have d2:=decide_eq_true q2
     rw [if_neg (by simp; omega),q04] at hk
     (repeat' first|simp only [il28l1_go,il28l1b,go_sem,hs,hget,hlt,hw,hiN,g1,hlN,hmr,d1,d2]|with_reducible refine wX fun _=>?_|((with_reducible refine wY ?_ ?_); rfl)|fail)
     all_goals (refine hk _ _ _ (.inr ?_); simp only [go_sem])
    ·have d2:=decide_eq_false q2
     rw [if_pos (by simp; omega),q01] at hk
     (repeat' first|simp only [il28l1_go,il28l1b,go_sem,hs,hget,hlt,hw,hiN,g1,hlN,hmr,d1,d2]|with_reducible refine wX fun _=>?_|((with_reducible refine wY ?_ ?_); rfl)|fail)
     all_goals (refine hk _ _ ⟨?_,rfl⟩; simp only [go_sem,hs,hw])
 ·intro _ e h Y R hlt ⟨hs,hh⟩ hk
  subst hh
  (repeat' first|simp only [il28l1_go,il28l1b,go_sem,hs,hlt]|with_reducible refine wX fun _=>?_|((with_reducible refine wY ?_ ?_); rfl)|fail)
  all_goals (refine hk _ _ _ (.inl ?_); simp only [go_sem,hs])
 ·intro x e h hx
  rw [q1a,← List.range_eq_range'] at hx
  rcases hx with ⟨hb,rfl,e1⟩|⟨hb,rfl,e2⟩
  ·exact h1 hb e h e1
  ·exact h2 hb e h e2
theorem q3t (c1 c2:Bool) (t:Tpo):ans Tryz.prog pol 28 [tpT c1 c2 t]=some (I (if okT t=true then 0 else 260)):=by
 by_cases hz:sizeP t
 rotate_left
 ·rw [qeO hz,if_neg (by simp [okT,decide_eq_false hz])]
 have hz':=hz
 obtain ⟨⟨z1,z2⟩,z3,z4⟩:=hz
 have e1:decide (t.nodes < 2)=false:=decide_eq_false (by omega)
 have e2:decide ((12:Int) < t.nodes)=false:=decide_eq_false (by omega)
 have e3:decide ((t.station.length:Int)=t.nodes)=true:=decide_eq_true z3
 have e4:decide ((24:Int) < (t.links.length:Nat))=false:=decide_eq_false (by omega)
 have k1:=qeF c1 c2 t z3 (by omega)
 have ho:okT t=(soundL t && (degOk t && !(decide (false∈reachL t 0 (fun _=>false))))):=by rw [okT,decide_eq_true hz',Bool.true_and]
 cases hs:soundL t with
 | false =>
  rw [hs] at k1
  rw [if_neg (by rw [ho,hs]; simp)]
  refine q00 1 1 il28_eq (Nat.le_of_ble_eq_true rfl) ?_
  (repeat' first|simp only [il28c,go_sem,e1,e2,e3,e4,k1]|with_reducible refine wX fun _=>?_|((with_reducible refine wY ?_ ?_); rfl)|fail)
 | true =>
  rw [hs] at k1
  have hv:=q3s hs
  obtain ⟨N,hN⟩:∃ N:Nat,t.nodes=(N:Int):=⟨t.nodes.toNat,by omega⟩
  have hNn:t.nodes.toNat=N:=by omega
  have hroom:8*N≤roomB:=by rw [Nat.mul_comm]; exact q08 (by omega) (by omega)
  have hbig:N≤9223372036854775807:=by omega
  have hpos:0≤t.nodes:=by omega
  have hdeg:t.links.foldl dStep (List.replicate N 0)=degs t:=by rw [degs,hNn]
  have hdl:=q6i t
  rw [hNn] at hdl
  have k2:=qeJ c1 c2 t hv z4 (by omega) 0 (by omega) (List.replicate 24 false) rfl
  have hfun:(fun i:Nat=>(List.replicate 24 false:List Bool)[i]?.getD false)=fun _=>false:=by
   funext i
   rw [List.getElem?_replicate]
   split <;> rfl
  rw [hfun] at k2
  have hrl:=q2r t 0 (fun _=>false)
  have k3:=qeN true (reachL t 0 (fun _=>false)) (by omega)
  simp only [List.replicate_succ,List.replicate_zero,List.map_cons,List.map_nil,Int.natCast_zero] at k2
  generalize reachL t 0 (fun _=>false)=rl at *
  have hmap:List.replicate N (AV.t (T.sc (Value.int IntKind.i64 0)))=((List.replicate N (0:Int)).map I).map .t:=by simp
  refine q00 1000 1 il28_eq (Nat.le_of_ble_eq_true rfl) ?_
  (repeat' first|simp only [il28c,go_sem,e1,e2,e3,e4,k1,hroom,hbig,hpos,hNn]|with_reducible refine wX fun _=>?_|((with_reducible refine wY ?_ ?_); rfl)|fail)
  rw [hmap]
  refine qeP t hv z4 N hN.symm (.ip (tpC c1 c2 t)) c2 _ _ (by omega) _ _ (by simp only [go_sem]) ?_
  intro e mr hmr he
  rw [hdeg]
  (repeat' first|simp only [il28c,go_sem,he]|with_reducible refine wX fun _=>?_|((with_reducible refine wY ?_ ?_); rfl)|fail)
  refine qeQ t (by omega) (by omega) N hdl.symm mr hmr (.ip (tpC c1 c2 t)) c1 _ _ (by omega) _ _ (by simp only [go_sem,he]) ?_ ?_
  ·intro hd e h he
   cases hc:decide (false∈rl) with
   | false =>
    rw [hc] at k3
    rw [if_pos (by rw [ho,hs,hd,hc]; rfl)]
    (repeat' first|simp only [il28c,go_sem,he,k2,k3]|with_reducible refine wX fun _=>?_|((with_reducible refine wY ?_ ?_); rfl)|fail)
   | true =>
    rw [hc] at k3
    rw [if_neg (by rw [ho,hs,hd,hc]; simp)]
    (repeat' first|simp only [il28c,go_sem,he,k2,k3]|with_reducible refine wX fun _=>?_|((with_reducible refine wY ?_ ?_); rfl)|fail)
  ·intro hd e h he
   rw [if_neg (by rw [ho,hs,hd]; simp)]
   (repeat' first|simp only [il28c,go_sem,he]|with_reducible refine wX fun _=>?_|((with_reducible refine wY ?_ ?_); rfl)|fail)
theorem q6j {c1 c2:Bool} {t:Tpo} (h:okT t=true):ans Tryz.prog pol 28 [tpT c1 c2 t]=some (I 0):=by rw [q3t,if_pos h]
end Go.Proofs.YtbibdnlbpjnieaaGreat
namespace Go.Proofs.YtbibdnlbpjnieaaGreat
open Go Go.Abs
def frP (t:Tpo) (p:Nat):Int:=if p % 2=0 then (lnk t (p / 2)).a else (lnk t (p / 2)).b
def toP (t:Tpo) (p:Nat):Int:=if p % 2=0 then (lnk t (p / 2)).b else (lnk t (p / 2)).a
def portsL (t:Tpo) (n:Int):List Nat:=(List.range (2*t.links.length)).filter (fun p=>decide (frP t p=n))
abbrev endC (l:Lk) (p:Nat):List T:=[I l.a,I l.b,I l.per,I l.delay,I (p:Nat)]
abbrev endT (l:Lk) (p:Nat):T:=.agg (endC l p)
abbrev ofN (n:Nat):Int:=(n:Int)
theorem tmod2 (p:Nat):Int.tmod (p:Int) 2=((p % 2:Nat):Int):=rfl
theorem tdiv2 (p:Nat):Int.tdiv (p:Int) 2=((p / 2:Nat):Int):=rfl
theorem qeR (l:Lk) (p:Nat):ans Tryz.prog pol 133 [endT l p]=some (I (if p % 2=0 then l.a else l.b)):=by
 have m:=tmod2 p
 refine q00 1 1 il133_eq (Nat.le_of_ble_eq_true rfl) ?_
 by_cases h:p % 2=0
 ·rw [if_pos h]
  have d:decide (((p % 2:Nat):Int)=0)=true:=decide_eq_true (by omega)
  (have hc:=hc0; repeat' first|simp only [hc,il133c,go_sem,m,d]|((with_reducible first|refine wG (fun hc=>?_) fun hc=>?_|refine wC (fun hc=>?_) fun hc=>?_) <;> try simp only [bq1,bq2] at hc)|with_reducible refine wX fun _=>?_|((with_reducible refine wY ?_ ?_); rfl)|fail)
 ·rw [if_neg h]
  have d:decide (((p % 2:Nat):Int)=0)=false:=decide_eq_false (by omega)
  (have hc:=hc0; repeat' first|simp only [hc,il133c,go_sem,m,d]|((with_reducible first|refine wG (fun hc=>?_) fun hc=>?_|refine wC (fun hc=>?_) fun hc=>?_) <;> try simp only [bq1,bq2] at hc)|with_reducible refine wX fun _=>?_|((with_reducible refine wY ?_ ?_); rfl)|fail)
theorem qeS (l:Lk) (p:Nat):ans Tryz.prog pol 135 [endT l p]=some (I (if p % 2=0 then l.b else l.a)):=by
 have m:=tmod2 p
 refine q00 1 1 il135_eq (Nat.le_of_ble_eq_true rfl) ?_
 by_cases h:p % 2=0
 ·rw [if_pos h]
  have d:decide (((p % 2:Nat):Int)=0)=true:=decide_eq_true (by omega)
  (have hc:=hc0; repeat' first|simp only [hc,il135c,go_sem,m,d]|((with_reducible first|refine wG (fun hc=>?_) fun hc=>?_|refine wC (fun hc=>?_) fun hc=>?_) <;> try simp only [bq1,bq2] at hc)|with_reducible refine wX fun _=>?_|((with_reducible refine wY ?_ ?_); rfl)|fail)
 ·rw [if_neg h]
  have d:decide (((p % 2:Nat):Int)=0)=false:=decide_eq_false (by omega)
  (have hc:=hc0; repeat' first|simp only [hc,il135c,go_sem,m,d]|((with_reducible first|refine wG (fun hc=>?_) fun hc=>?_|refine wC (fun hc=>?_) fun hc=>?_) <;> try simp only [bq1,bq2] at hc)|with_reducible refine wX fun _=>?_|((with_reducible refine wY ?_ ?_); rfl)|fail)
theorem q02 {t:Tpo} (h:okT t=true):sizeP t:=by
 simp only [okT,Bool.and_eq_true] at h
 exact of_decide_eq_true h.1
theorem qeT (c1 c2:Bool) (t:Tpo) (p:Nat) (h:okT t=true) (hp:p < 2*t.links.length):ans Tryz.prog pol 112 [tpT c1 c2 t,I (p:Nat)]=some (.tup [I (toP t p),I 0]):=by
 obtain ⟨z1,z2,z3⟩:=q02 h
 have k1:=q6j (c1:=c1) (c2:=c2) h
 have hi:p / 2 < t.links.length:=by omega
 have hg:(t.links.map encK)[p / 2]? = some (encK (lnk t (p / 2))):=by simp [lnk,hi]
 have k2:=qeS (lnk t (p / 2)) p
 have v1:IntKind.i64.wrap (2*(t.links.length:Nat))=((2*t.links.length:Nat):Int):=q09 (by omega) (by omega)
 have d1:decide (((p:Nat):Int) < 0)=false:=decide_eq_false (by omega)
 have d2:decide (((2*t.links.length:Nat):Int)≤(p:Nat))=false:=decide_eq_false (by omega)
 have v2:IntKind.i64.wrap (Int.tdiv (p:Nat) 2)=((p / 2:Nat):Int):=by rw [tdiv2]; exact q09 (by omega) (by omega)
 simp only [toP]
 generalize lnk t (p / 2)=l at *
 have k3:ans Tryz.prog pol 134 [tpT c1 c2 t,I (p:Nat),.fn (.func 135) [] []]=some (.tup [I (if p % 2=0 then l.b else l.a),I 0]):=by
  refine q00 1 1 il134_eq (Nat.le_of_ble_eq_true rfl) ?_
  (have hc:=hc0; repeat' first|simp only [hc,il134c,go_sem,k1,v1,d1,d2,v2,hg,q0k,k2]|((with_reducible first|refine wG (fun hc=>?_) fun hc=>?_|refine wC (fun hc=>?_) fun hc=>?_) <;> try simp only [bq1,bq2] at hc)|with_reducible refine wX fun _=>?_|((with_reducible refine wY ?_ ?_); rfl)|fail)
 refine q00 1 1 il112_eq (Nat.le_of_ble_eq_true rfl) ?_
 (have hc:=hc0; repeat' first|simp only [hc,il112c,go_sem,k3]|((with_reducible first|refine wG (fun hc=>?_) fun hc=>?_|refine wC (fun hc=>?_) fun hc=>?_) <;> try simp only [bq1,bq2] at hc)|with_reducible refine wX fun _=>?_|((with_reducible refine wY ?_ ?_); rfl)|fail)
theorem qeU (c1 c2:Bool) (t:Tpo):ans Tryz.prog pol 132 [tpT c1 c2 t]=some (.fn (.func 143) [] [.ip (tpC c1 c2 t)]):=by
 refine q00 1 1 il132_eq (Nat.le_of_ble_eq_true rfl) ?_
 (have hc:=hc0; repeat' first|simp only [hc,il132c,go_sem]|((with_reducible first|refine wG (fun hc=>?_) fun hc=>?_|refine wC (fun hc=>?_) fun hc=>?_) <;> try simp only [bq1,bq2] at hc)|with_reducible refine wX fun _=>?_|((with_reducible refine wY ?_ ?_); rfl)|fail)
section
variable {σ:Type} (hp:σ→Heap) (N:Nat) (hN:∀ s,(hp s).length=N) (nx:σ→Nat→σ) (dd nn o:Nat) (Iv:Nat→σ→Prop) (t:Tpo)
 (hiv:∀ p s,Iv p s→Iv (p+1) (nx s p))
 (hy:∀ (s:σ) (p:Nat) (X:Heap) (Q:AV→Heap→Prop),p < 2*t.links.length→Iv p s→(∀ X',Q (.t (B true)) (hp (nx s p)++X++X'))→oB (inl Tryz.prog pol (ans Tryz.prog pol) nn dd (.yl o) [.t (endT (lnk t (p / 2)) p)] (hp s++X)) Q)
 (hfz:∀ (s:σ) (h:Heap) (q:Nat),N≤q→mapO (frzObj h (fromB q)) (hp s)=some (hp s)) (hoN:o < N)
include hN hiv hy hfz hoN
theorem qeV (c1 c2:Bool) (hb:t.links.length≤24) (s:σ) (h0:Iv 0 s) (Q:AV→Heap→Prop) (hn:100 < nn) (hQ:∀ v,Q v (hp ((List.range (2*t.links.length)).foldl nx s))) :
  oB (inl Tryz.prog pol (ans Tryz.prog pol) nn (dd+1) (.fn 143) [.yl o,.t (.ip (tpC c1 c2 t))] (hp s)) Q:=by
 refine q0b il143_eq (Nat.le_of_ble_eq_true rfl) ?_
 have g1:∀ (s:σ) (x:AObj) (Y:Heap),(hp s++(x::Y))[N]? = some x:=fun s x Y=>by rw [List.getElem?_append_right (by rw [hN]; omega),hN,Nat.sub_self]; rfl
 have g4:∀ (s:σ) (x y:AObj),(hp s++[x]).set N y=hp s++[y]:=fun s x y=>by
  show List.set (hp s++[x]:List AObj) N y=_
  rw [List.set_append]
  simp [hN]
 have g5:∀ (s:σ) (Y:Heap),(hp s++Y).take N=hp s:=fun s Y=>by rw [List.take_append,hN,List.take_of_length_le (by rw [hN]; omega)]; simp
 have g6:∀ (s:σ) (hx:Heap),mapO (frzObj hx (fromB N)) (hp s)=some (hp s):=fun s hx=>hfz s hx N (Nat.le_refl _)
 have hlen:∀ (s:σ) (Y:Heap),(hp s++Y).length=N+Y.length:=fun s Y=>by simp [hN]
 have f2:decide (N≤o)=false:=decide_eq_false (by omega)
 have f4:∀ k,N < N+(k+1):=fun k=>by omega
 (have hc:=hc0; repeat' first|simp only [hc,il143c,go_sem,hN]|((with_reducible first|refine wG (fun hc=>?_) fun hc=>?_|refine wC (fun hc=>?_) fun hc=>?_) <;> try simp only [bq1,bq2] at hc)|with_reducible refine wX fun _=>?_|((with_reducible refine wY ?_ ?_); rfl)|fail)
 refine q06 t.links encK (step:=fun i _ s=>.go (nx (nx s (2*i)) (2*i+1))) (fin:=id)
  (St:=fun i s e h=>(e 0=.yl o∧e 6=.t (.sl c2 4 (t.links.map encK))∧e 7=.t (I (t.links.length:Nat))∧e 8=.t (I (i:Nat)))∧h=hp s∧Iv (2*i) s)
  (Ex:=fun s x e h=>x=.exit 0∧h=hp s) (s:=s) (by omega) ?_ ?_ (by omega) ?_ ?_
 ·intro i l s e h Y R hm hi hx hget hlt hw ⟨hs,hh,hI⟩ hk
  subst hh
  simp only [q01] at hk
  have hl:lnk t i=l:=by simp [lnk,hx]
  have v1:IntKind.i64.wrap (2*(i:Nat))=((2*i:Nat):Int):=q09 (by omega) (by omega)
  have v2:IntKind.i64.wrap (((2*i:Nat):Int)+1)=((2*i+1:Nat):Int):=q09 (by omega) (by omega)
  have hI1:=hiv _ _ hI
  have hI2:=hiv _ _ hI1
  (have hc:=hc0; repeat' first|simp only [hc,il143l0_go,il143l0b,go_sem,hs,hget,hlt,q0k,hN,g1,g4,hlen,v1]|((with_reducible first|refine wG (fun hc=>?_) fun hc=>?_|refine wC (fun hc=>?_) fun hc=>?_) <;> try simp only [bq1,bq2] at hc)|with_reducible refine wX fun _=>?_|((with_reducible refine wY ?_ ?_); rfl)|fail)
  have y1:=hy s (2*i) [.row 4 [.t (.agg [I l.a,I l.b,I l.per,I l.delay])] 1]
  rw [show 2*i / 2=i by omega,hl] at y1
  refine y1 _ (by omega) hI ?_
  intro X'
  (have hc:=hc0; repeat' first|simp only [hc,il143l0_go,il143l0b,go_sem,hs,hget,hlt,q0k,hN,g1,hlen,v1,v2,List.append_assoc]|((with_reducible first|refine wG (fun hc=>?_) fun hc=>?_|refine wC (fun hc=>?_) fun hc=>?_) <;> try simp only [bq1,bq2] at hc)|with_reducible refine wX fun _=>?_|((with_reducible refine wY ?_ ?_); rfl)|fail)
  have y2:=hy (nx s (2*i)) (2*i+1) (.row 4 [.t (.agg [I l.a,I l.b,I l.per,I l.delay])] 1::X')
  rw [show (2*i+1) / 2=i by omega,hl] at y2
  refine y2 _ (by omega) hI1 ?_
  intro X''
  (have hc:=hc0; repeat' first|simp only [hc,il143l0_go,il143l0b,go_sem,hs,hget,hlt,q0k,hN,g1,hlen,hw,List.append_assoc,f4,g5,g6,f2,q0f]|((with_reducible first|refine wG (fun hc=>?_) fun hc=>?_|refine wC (fun hc=>?_) fun hc=>?_) <;> try simp only [bq1,bq2] at hc)|with_reducible refine wX fun _=>?_|((with_reducible refine wY ?_ ?_); rfl)|fail)
  all_goals (refine hk _ _ ⟨?_,rfl,hI2⟩; simp only [go_sem,hs,hw,f2,q0f])
 ·intro s e h Y R hlt ⟨hs,hh,_⟩ hk
  subst hh
  (have hc:=hc0; repeat' first|simp only [hc,il143l0_go,il143l0b,go_sem,hs,hlt]|((with_reducible first|refine wG (fun hc=>?_) fun hc=>?_|refine wC (fun hc=>?_) fun hc=>?_) <;> try simp only [bq1,bq2] at hc)|with_reducible refine wX fun _=>?_|((with_reducible refine wY ?_ ?_); rfl)|fail)
  all_goals (refine hk _ _ _ ?_; simp only [go_sem,id])
 ·refine ⟨?_,rfl,h0⟩
  simp only [go_sem]
 ·intro x e h ⟨h1,h2⟩
  subst h1
  have hf:∀ (ls:List Lk) (i:Nat) (s:σ),foldC (ρ:=σ) (fun i _ s=>Ctl.go (nx (nx s (2*i)) (2*i+1))) id i ls s=(List.range' (2*i) (2*ls.length)).foldl nx s:=by
   intro ls
   induction ls with
   | nil=>intro i s; rfl
   | cons l ls ih =>
    intro i s
    rw [q07 (s':=nx (nx s (2*i)) (2*i+1)) rfl,ih,List.length_cons,show 2*(ls.length+1)=(2*ls.length+1)+1 by omega,List.range'_succ,List.range'_succ,List.foldl_cons,List.foldl_cons]
    rfl
  rw [hf,Nat.mul_zero,← List.range_eq_range'] at h2
  subst h2
  (have hc:=hc0; repeat' first|simp only [hc,il143c,go_sem]|((with_reducible first|refine wG (fun hc=>?_) fun hc=>?_|refine wC (fun hc=>?_) fun hc=>?_) <;> try simp only [bq1,bq2] at hc)|with_reducible refine wX fun _=>?_|((with_reducible refine wY ?_ ?_); rfl)|fail)
  exact hQ _
end
def prS (t:Tpo) (n:Int) (o:List Nat) (p:Nat):List Nat:=if frP t p=n then o++[p] else o
noncomputable def lpP (rf:Code × Code) (E:FEnv):AObj:=.loop 111 (lpEnv 35 (tidyF (some [3,7]) E)) [24] rf.1 rf.2 false none
noncomputable def hpP (rf:Code × Code) (E:FEnv) (o:List Nat):Heap:=[rowG 1 I (o.map ofN),.row 1 [.ms 0 o.length 0 o.length 1 false] (if o.length=0 then 0 else 1),lpP rf E]
theorem qeW (rf:Code × Code) (hrf:rfOf Tryz.prog 111 0=rf) (t:Tpo) (n:Int) (E:FEnv) (hE:E 3=.t (.ip [I n])∧E 7=.ref 1 1 0 0) (dd nn:Nat) (o:List Nat) (ho:o.length≤1000) (p:Nat) (X:Heap) (Q:AV→Heap→Prop)
  (hQ:∀ X',Q (.t (B true)) (hpP rf E (prS t n o p)++X++X')) :
  oB (inl Tryz.prog pol (ans Tryz.prog pol) nn (dd+1) (.yl 2) [.t (endT (lnk t (p / 2)) p)] (hpP rf E o++X)) Q:=by
 subst hrf
 have k1:=qeR (lnk t (p / 2)) p
 have hroom:(o.length+1)*8≤roomB:=q08 (by omega) (by omega)
 have hmr:(if o.length=0 then 0 else 1)≤1:=by split <;> omega
 have hlm:(o.map ofN).length=o.length:=by simp
 have hq:=hQ [.row 5 [.t (endT (lnk t (p / 2)) p)] 1]
 have hf:frP t p=if p % 2=0 then (lnk t (p / 2)).a else (lnk t (p / 2)).b:=rfl
 rw [← hf] at k1
 simp only [prS] at hq
 generalize frP t p=F at *
 generalize lnk t (p / 2)=l at *
 simp only [hpP,lpP] at hq ⊢
 have his:rowIs 1 o.length (some (rowG 1 I (o.map ofN))):=by have:=q0g (k:=1) (enc:=I) (l:=o.map ofN); rwa [hlm] at this
 refine oB_yl (E:=tidyF (some [3,7]) E) rfl rfl rfl il111r0a_eq il111r0b_eq ?_
 by_cases q:F=n
 ·have d1:decide (F=n)=true:=decide_eq_true q
  rw [if_pos q] at hq
  have hpush:AObj.row 1 (((o.map ofN).map I).map .t++[.t (I (p:Nat))]) 0=rowG 1 I ((o++[p]).map ofN):=by simp [rowG,ofN]
  rw [← hpush] at hq
  simp only [List.length_append,List.length_cons,List.length_nil,Nat.zero_add,Nat.add_eq_zero_iff,Nat.one_ne_zero,and_false,if_false,List.cons_append,List.nil_append] at hq
  (have hc:=hc0; repeat' first|simp only [hc,il111r0a,il111r0b,go_sem,hE,k1,d1,hroom,his,q0d,q0e,hmr,q1w,q1x]|((with_reducible first|refine wG (fun hc=>?_) fun hc=>?_|refine wC (fun hc=>?_) fun hc=>?_) <;> try simp only [bq1,bq2] at hc)|with_reducible refine wX fun _=>?_|((with_reducible refine wY ?_ ?_); rfl)|fail)
  all_goals exact hq
 ·have d1:decide (F=n)=false:=decide_eq_false q
  rw [if_neg q] at hq
  simp only [List.cons_append,List.nil_append] at hq
  (have hc:=hc0; repeat' first|simp only [hc,il111r0a,il111r0b,go_sem,hE,k1,d1,q1w,q1x]|((with_reducible first|refine wG (fun hc=>?_) fun hc=>?_|refine wC (fun hc=>?_) fun hc=>?_) <;> try simp only [bq1,bq2] at hc)|with_reducible refine wX fun _=>?_|((with_reducible refine wY ?_ ?_); rfl)|fail)
  all_goals exact hq
theorem q0n {k:Nat} {enc:Int→T} {l:List Int} {h:Heap} {p:Nat→Bool}:frzObj h p (rowG k enc l)=some (rowG k enc l):=by simp only [rowG,frzObj,q0l,if_true]
theorem qeX (rf:Code × Code) (E:FEnv) (n:Int) (hE:E 3=.t (.ip [I n])∧E 7=.ref 1 1 0 0) (o:List Nat) (h:Heap) (q:Nat) (hq:3≤q):mapO (frzObj h (fromB q)) (hpP rf E o)=some (hpP rf E o):=by
 have f1:decide (q≤1)=false:=decide_eq_false (by omega)
 have h1:frzObj h (fromB q) (lpP rf E)=some (lpP rf E):=by
  rw [lpP,q0y]
  simp only [go_sem,hE,f1]
 have h2:∀ mr,frzObj h (fromB q) (.row 1 [.ms 0 o.length 0 o.length 1 false] mr)=some (.row 1 [.ms 0 o.length 0 o.length 1 false] mr):=by
  intro mr; simp [frzObj,avoidAll,avoid,fromB]; omega
 simp only [hpP,mapO,q0n,h1,h2]
theorem qeY (t:Tpo) (n:Int):∀ (l:List Nat) (o:List Nat),l.foldl (prS t n) o=o++l.filter (fun p=>decide (frP t p=n)):=by
 intro l
 induction l with
 | nil=>intro o; simp
 | cons p l ih =>
  intro o
  rw [List.foldl_cons,ih,List.filter_cons]
  by_cases q:frP t p=n
  ·simp [prS,q]
  ·simp [prS,q]
theorem qeZ (c1 c2:Bool) (t:Tpo) (n:Nat) (h:okT t=true) (hn:(n:Int) < t.nodes):ans Tryz.prog pol 111 [tpT c1 c2 t,I (n:Nat)]=some (.tup [.sl false 1 (((portsL t n).map ofN).map I),I 0]):=by
 obtain ⟨z1,z2,z3⟩:=q02 h
 have k1:=q6j (c1:=c1) (c2:=c2) h
 have k2:=qeU c1 c2 t
 have d1:decide (((n:Nat):Int) < 0)=false:=decide_eq_false (by omega)
 have d2:decide (t.nodes≤(n:Nat))=false:=decide_eq_false (by omega)
 refine q00 200 4 il111_eq (Nat.le_of_ble_eq_true rfl) ?_
 simp only [il111c]
 generalize hrf:rfOf Tryz.prog 111 0=rf
 (have hc:=hc0; repeat' first|simp only [hc,il111c,go_sem,k1,d1,d2,k2]|((with_reducible first|refine wG (fun hc=>?_) fun hc=>?_|refine wC (fun hc=>?_) fun hc=>?_) <;> try simp only [bq1,bq2] at hc)|with_reducible refine wX fun _=>?_|((with_reducible refine wY ?_ ?_); rfl)|fail)
 have key:∀ E:FEnv,([.row 1 [] 0,.row 1 [.ms 0 0 0 0 1 false] 0,.loop 111 (lpEnv 35 (tidyF (some [3,7]) E)) [24] rf.1 rf.2 false none]:Heap)=hpP rf E []:=fun E=>rfl
 rw [key]
 have h200:100 < 200:=by omega
 have h23:2 < 3:=by omega
 have hI0:(fun (p:Nat) (o:List Nat)=>o.length≤p∧p≤2*t.links.length+2) 0 []:=by simp
 with_reducible refine qeV (fun o=>hpP rf _ o) 3 (fun o=>rfl) (prS t n) 3 200 2 (fun p o=>o.length≤p) t ?_ ?_ ?_ h23 c1 c2 z3 [] (by simp) _ h200 ?_
 ·intro p o h
  have h:o.length≤p:=h
  show (prS t (n:Nat) o p).length≤p+1
  unfold prS
  split
  ·simp; omega
  ·omega
 ·intro o p X Q hp ho hQ
  exact qeW rf hrf t n _ (by simp only [go_sem]) 2 200 o (by omega) p X Q hQ
 ·intro o h q hq
  exact qeX rf _ n (by simp only [go_sem]) o h q hq
 ·intro x
  rw [qeY,List.nil_append]
  change rfEnd _ _ _ x (hpP rf _ (portsL t n))
  generalize portsL t n=o
  have hmr:(if o.length=0 then 0 else 1)≤1:=by split <;> omega
  have hlm:(o.map ofN).length=o.length:=by simp
  have his:rowIs 1 o.length (some (rowG 1 I (o.map ofN))):=by have:=q0g (k:=1) (enc:=I) (l:=o.map ofN); rwa [hlm] at this
  have h4:∀ h mr,frzObj h (fromB 2) (.row 1 [.ms 0 o.length 0 o.length 1 false] mr)=some (.row 1 [.ms 0 o.length 0 o.length 1 false] mr):=by
   intro h mr; simp [frzObj,avoidAll,avoid,fromB]
  simp only [hpP,lpP]
  (have hc:=hc0; repeat' first|simp only [hc,il111c,go_sem,q0n,h4,his,q0d,q0e,hmr]|((with_reducible first|refine wG (fun hc=>?_) fun hc=>?_|refine wC (fun hc=>?_) fun hc=>?_) <;> try simp only [bq1,bq2] at hc)|with_reducible refine wX fun _=>?_|((with_reducible refine wY ?_ ?_); rfl)|fail)
end Go.Proofs.YtbibdnlbpjnieaaGreat
namespace Go.Proofs.YtbibdnlbpjnieaaGreat
open Go Go.Abs
theorem q6k (c1 c2:Bool) (t:Tpo) (n:Int):ans Tryz.prog pol 80 [tpT c1 c2 t,I n]=some (B (decide (nodeP t n))):=by
 refine q00 1 1 il80_eq (Nat.le_of_ble_eq_true rfl) ?_
 by_cases h:0≤n
 ·have e0:decide (0≤n)=true:=decide_eq_true h
  have e1:decide (0≤n∧n < t.nodes)=decide (n < t.nodes):=by simp [h]
  rw [e1]
  (repeat' first|simp only [il80c,go_sem,e0]|with_reducible refine wX fun _=>?_|((with_reducible refine wY ?_ ?_); rfl)|fail)
 ·have e0:decide (0≤n)=false:=decide_eq_false h
  rw [decide_eq_false (fun k=>h k.1)]
  (repeat' first|simp only [il80c,go_sem,e0]|with_reducible refine wX fun _=>?_|((with_reducible refine wY ?_ ?_); rfl)|fail)
theorem qf0 (l:Lk) (a b:Int):ans Tryz.prog pol 36 [lkT l,I a,I b]=some (B (decide (l.a=a∧l.b=b∨l.a=b∧l.b=a))):=by
 refine q00 1 1 il36_eq (Nat.le_of_ble_eq_true rfl) ?_
 by_cases h1:l.a=a
 ·have d1:=decide_eq_true h1
  by_cases h2:l.b=b
  ·have d2:=decide_eq_true h2
   rw [decide_eq_true (show l.a=a∧l.b=b∨l.a=b∧l.b=a from .inl ⟨h1,h2⟩)]
   (repeat' first|simp only [il36c,go_sem,d1,d2]|with_reducible refine wX fun _=>?_|((with_reducible refine wY ?_ ?_); rfl)|fail)
  ·have d2:=decide_eq_false h2
   have e:decide (l.a=a∧l.b=b∨l.a=b∧l.b=a)=decide (l.a=b∧l.b=a):=by simp [h2]
   rw [e]
   by_cases h3:l.a=b
   ·have d3:=decide_eq_true h3
    have e:decide (l.a=b∧l.b=a)=decide (l.b=a):=by simp [h3]
    rw [e]
    (repeat' first|simp only [il36c,go_sem,d1,d2,d3]|with_reducible refine wX fun _=>?_|((with_reducible refine wY ?_ ?_); rfl)|fail)
   ·have d3:=decide_eq_false h3
    rw [decide_eq_false (fun k=>h3 k.1)]
    (repeat' first|simp only [il36c,go_sem,d1,d2,d3]|with_reducible refine wX fun _=>?_|((with_reducible refine wY ?_ ?_); rfl)|fail)
 ·have d1:=decide_eq_false h1
  have e:decide (l.a=a∧l.b=b∨l.a=b∧l.b=a)=decide (l.a=b∧l.b=a):=by simp [h1]
  rw [e]
  by_cases h3:l.a=b
  ·have d3:=decide_eq_true h3
   have e:decide (l.a=b∧l.b=a)=decide (l.b=a):=by simp [h3]
   rw [e]
   (repeat' first|simp only [il36c,go_sem,d1,d3]|with_reducible refine wX fun _=>?_|((with_reducible refine wY ?_ ?_); rfl)|fail)
  ·have d3:=decide_eq_false h3
   rw [decide_eq_false (fun k=>h3 k.1)]
   (repeat' first|simp only [il36c,go_sem,d1,d3]|with_reducible refine wX fun _=>?_|((with_reducible refine wY ?_ ?_); rfl)|fail)
def lkR (t:Tpo) (l:Lk):Bool:=lk1 t l && (lk2 t l && lk4 l)
theorem qf1 (c1 c2:Bool) (t:Tpo) (l:Lk) (hs:(t.station.length:Int)=t.nodes):ans Tryz.prog pol 35 [tpT c1 c2 t,lkT l]=some (B (lkR t l)):=by
 have k1:=q6k c1 c2 t l.a
 have k2:=q6k c1 c2 t l.b
 refine q00 1 1 il35_eq (Nat.le_of_ble_eq_true rfl) ?_
 unfold lkR
 by_cases h1:nodeP t l.a
 ·have e1:=decide_eq_true h1
  by_cases h2:nodeP t l.b
  ·have e2:=decide_eq_true h2
   by_cases h3:l.a=l.b
   ·have d3:=decide_eq_true h3
    have:lk1 t l=false:=by simp [lk1,h3]
    rw [this]
    (repeat' first|simp only [il35c,go_sem,k1,k2,e1,e2,d3]|with_reducible refine wX fun _=>?_|((with_reducible refine wY ?_ ?_); rfl)|fail)
   ·have d3:=decide_eq_false h3
    have hl1:lk1 t l=true:=by unfold lk1; exact decide_eq_true ⟨h1,h2,h3⟩
    obtain ⟨g1,q1⟩:=q0A t hs h1
    obtain ⟨g2,q2⟩:=q0A t hs h2
    rw [hl1]
    unfold lk2
    generalize stA t l.a.toNat=sa at *
    generalize stA t l.b.toNat=sb at *
    have h4:lk4 l=(decide (1≤l.per) && (decide (l.per≤1000) && (decide (0≤l.delay) && decide (l.delay≤10000)))):=by
     unfold lk4
     rw [Bool.eq_iff_iff]
     simp only [decide_eq_true_eq,Bool.and_eq_true,and_assoc]
    rw [h4]
    cases sa with
    | true =>
     cases sb with
     | true=>(repeat' first|simp only [il35c,go_sem,k1,k2,e1,e2,d3,g1,g2,q1,q2]|with_reducible refine wX fun _=>?_|((with_reducible refine wY ?_ ?_); rfl)|fail)
     | false =>
      cases p1:decide (1≤l.per) <;> cases p2:decide (l.per≤1000) <;> cases p3:decide (0≤l.delay) <;> cases p4:decide (l.delay≤10000) <;> (repeat' first|simp only [il35c,go_sem,k1,k2,e1,e2,d3,g1,g2,q1,q2,p1,p2,p3,p4]|with_reducible refine wX fun _=>?_|((with_reducible refine wY ?_ ?_); rfl)|fail)
    | false =>
     cases p1:decide (1≤l.per) <;> cases p2:decide (l.per≤1000) <;> cases p3:decide (0≤l.delay) <;> cases p4:decide (l.delay≤10000) <;> (repeat' first|simp only [il35c,go_sem,k1,k2,e1,e2,d3,g1,g2,q1,q2,p1,p2,p3,p4]|with_reducible refine wX fun _=>?_|((with_reducible refine wY ?_ ?_); rfl)|fail)
  ·have e2:=decide_eq_false h2
   have:lk1 t l=false:=by unfold lk1; exact decide_eq_false (fun h=>h2 h.2.1)
   rw [this]
   (repeat' first|simp only [il35c,go_sem,k1,k2,e1,e2]|with_reducible refine wX fun _=>?_|((with_reducible refine wY ?_ ?_); rfl)|fail)
 ·have e1:=decide_eq_false h1
  have:lk1 t l=false:=by unfold lk1; exact decide_eq_false (fun h=>h1 h.1)
  rw [this]
  (repeat' first|simp only [il35c,go_sem,k1,k2,e1]|with_reducible refine wX fun _=>?_|((with_reducible refine wY ?_ ?_); rfl)|fail)
end Go.Proofs.YtbibdnlbpjnieaaGreat
namespace Go.Proofs.YtbibdnlbpjnieaaGreat
open Go Go.Abs
theorem qf2 (x:T):ans Tryz.prog pol 115 [x]=some (.tup []):=by
 refine q00 1 1 il115_eq (Nat.le_of_ble_eq_true rfl) ?_
 (repeat' first|simp only [il115c,go_sem]|with_reducible refine wX fun _=>?_|((with_reducible refine wY ?_ ?_); rfl)|fail)
 all_goals rfl
theorem qf3 (x:T):ans Tryz.prog pol 79 [x]=some (.tup []):=by
 refine q00 1 1 il79_eq (Nat.le_of_ble_eq_true rfl) ?_
 (repeat' first|simp only [il79c,go_sem]|with_reducible refine wX fun _=>?_|((with_reducible refine wY ?_ ?_); rfl)|fail)
 all_goals rfl
theorem q6l (c:Bool) (l:List Int) (hl:l.length≤1000):ans Tryz.prog pol 116 [.sl c 1 (l.map I),.fn (.func 115) [] []]=some (.sl true 1 (l.map I)):=by
 have hroom:8*l.length≤roomB:=by rw [Nat.mul_comm]; exact q08 (by omega) (by omega)
 have hbig:l.length≤9223372036854775807:=by omega
 have hcp:=q1v (size:=1) (n:=l.length) (o:=0) (mr:=0) (h:=[.row 1 (List.replicate l.length (.t (I 0))) 0]) (xs:=(l.map I).map .t) (elems:=List.replicate l.length (.t (I 0))) (by simp) (by simp) (Nat.zero_le _)
 have k1:=qf2 (.sl true 1 (l.map I))
 refine q00 1 1 il116_eq (Nat.le_of_ble_eq_true rfl) ?_
 (repeat' first|simp only [il116c,go_sem,hroom,hbig,hcp,k1]|with_reducible refine wX fun _=>?_|((with_reducible refine wY ?_ ?_); rfl)|fail)
theorem qf4 (c:Bool) (l:List Hd) (hl:l.length≤1000):ans Tryz.prog pol 117 [.sl c 8 (l.map encH),.fn (.func 79) [] []]=some (.sl true 8 (l.map encH)):=by
 have hroom:64*l.length≤roomB:=by rw [Nat.mul_comm]; exact q08 (by omega) (by omega)
 have hbig:l.length≤9223372036854775807:=by omega
 have hcp:=q1v (size:=8) (n:=l.length) (o:=0) (mr:=0) (h:=[.row 8 (List.replicate l.length (.t (hdT zH))) 0]) (xs:=(l.map encH).map .t) (elems:=List.replicate l.length (.t (hdT zH))) (by simp) (by simp) (Nat.zero_le _)
 have k1:=qf3 (.sl true 8 (l.map encH))
 simp only [zH] at hcp
 refine q00 1 1 il117_eq (Nat.le_of_ble_eq_true rfl) ?_
 (repeat' first|simp only [il117c,go_sem,hroom,hbig,hcp,k1]|with_reducible refine wX fun _=>?_|((with_reducible refine wY ?_ ?_); rfl)|fail)
theorem q2t (c1 c2 c3:Bool) (b:Br) (g:T) (hd:List Hd) (h1:b.ports.length≤1000) (h2:b.costs.length≤1000) (hg:ans Tryz.prog pol 117 [.sl c3 8 (b.heard.map encH),g]=some (.sl true 8 (hd.map encH))) :
  ans Tryz.prog pol 78 [brT c1 c2 c3 b,g]=some (brT true true true ⟨b.p,b.n,b.ports,b.costs,hd⟩):=by
 have k1:=q6l c1 b.ports h1
 have k2:=q6l c2 b.costs h2
 refine q00 1 1 il78_eq (Nat.le_of_ble_eq_true rfl) ?_
 (repeat' first|simp only [il78c,go_sem,k1,k2,hg]|with_reducible refine wX fun _=>?_|((with_reducible refine wY ?_ ?_); rfl)|fail)
abbrev zB:T:=.agg [I 0,I 0,.sc (.slice none 0 0),.sc (.slice none 0 0),.sc (.slice none 0 0)]
def newB (p n:Int) (ports costs:List Int):Br:=⟨p,n,ports,costs,List.replicate ports.length zH⟩
theorem qf5 (c1 c2:Bool) (p n:Int) (ports costs:List Int) (h1:ports.length≤1000):ans Tryz.prog pol 33 [.agg [I p,I n],.sl c1 1 (ports.map I),.sl c2 1 (costs.map I)] =
  some (if okB (newB p n ports costs)=true then .tup [brT true true true (newB p n ports costs),I 0] else .tup [zB,I 2]):=by
 have hroom:64*ports.length≤roomB:=by rw [Nat.mul_comm]; exact q08 (by omega) (by omega)
 have hbig:ports.length≤9223372036854775807:=by omega
 have k0:=q3q c1 c2 true (newB p n ports costs)
 have hrl:(List.replicate ports.length zH).length=ports.length:=by simp
 have hrow:=qeq (enc:=encH) (k:=8) (n:=ports.length) (mr:=0) zH
 have hrow:AObj.row 8 (List.replicate ports.length (AV.t (T.agg [B false,I 0,I 0,I 0,I 0,I 0,I 0,I 0]))) 0=AObj.row 8 (((List.replicate ports.length zH).map encH).map .t) 0:=hrow
 by_cases hok:okB (newB p n ports costs)=true
 ·rw [if_pos hok] at k0 ⊢
  simp only [newB] at k0 hok ⊢
  have hc:costs.length≤1000:=by
   rw [okB,Bool.and_eq_true,Bool.and_eq_true] at hok
   have:=of_decide_eq_true hok.1.1
   simp only [okL] at this; omega
  have k1:=q2t c1 c2 true ⟨p,n,ports,costs,List.replicate ports.length zH⟩ (.fn (.func 79) [] []) (List.replicate ports.length zH) h1 hc (qf4 true _ (by simpa using h1))
  simp only at k1
  clear hok
  generalize List.replicate ports.length zH=HL at *
  refine q00 1 1 il33_eq (Nat.le_of_ble_eq_true rfl) ?_
  have hms:frz [.row 5 [.t zB] 0,.row 8 ((HL.map encH).map .t) 0,.row 5 [.agg [.t (I p),.t (I n),.t (.sl c1 1 (ports.map I)),.t (.sl c2 1 (costs.map I)),.ms 1 ports.length 0 ports.length 8 true]] 1] (fun o=>o == 1) (.ms 1 ports.length 0 ports.length 8 true)=some (.t (.sl true 8 (HL.map encH))):=q1W rfl rfl (by omega) hrl.symm
  have hz:frz [.row 5 [.t zB] 0,.row 8 ((HL.map encH).map .t) 0,.row 5 [.agg [.t (I p),.t (I n),.t (.sl c1 1 (ports.map I)),.t (.sl c2 1 (costs.map I)),.ms 1 ports.length 0 ports.length 8 true]] 1] (fun o=>o == 1) (.agg [.t (I p),.t (I n),.t (.sl c1 1 (ports.map I)),.t (.sl c2 1 (costs.map I)),.ms 1 ports.length 0 ports.length 8 true])=some (.t (.agg [I p,I n,.sl c1 1 (ports.map I),.sl c2 1 (costs.map I),.sl true 8 (HL.map encH)])):=by
   refine q67 (cs':=[.t (I p),.t (I n),.t (.sl c1 1 (ports.map I)),.t (.sl c2 1 (costs.map I)),.t (.sl true 8 (HL.map encH))]) rfl ?_
   simp only [mapO,q68,q69,hms]
  have hfo:frzObj [.row 5 [.t zB] 0,.row 8 ((HL.map encH).map .t) 0,.row 5 [.agg [.t (I p),.t (I n),.t (.sl c1 1 (ports.map I)),.t (.sl c2 1 (costs.map I)),.ms 1 ports.length 0 ports.length 8 true]] 1] (fun o=>o == 1) (.row 5 [.agg [.t (I p),.t (I n),.t (.sl c1 1 (ports.map I)),.t (.sl c2 1 (costs.map I)),.ms 1 ports.length 0 ports.length 8 true]] 1)=some (.row 5 [.t (.agg [I p,I n,.sl c1 1 (ports.map I),.sl c2 1 (costs.map I),.sl true 8 (HL.map encH)])] 1):=by
   simp only [frzObj,mapO,hz,avoidAll,avoid,beq_self_eq_true,Bool.not_true,Bool.and_false,Bool.false_and,Bool.true_and,Bool.false_eq_true,if_false]
  (repeat' first|simp only [il33c,go_sem,hroom,hbig,hrow,k0,k1,hrl,q3p,hz,hfo]|with_reducible refine wX fun _=>?_|((with_reducible refine wY ?_ ?_); rfl)|fail)
 ·rw [if_neg hok] at k0 ⊢
  simp only [newB] at k0
  clear hok
  generalize List.replicate ports.length zH=HL at *
  refine q00 1 1 il33_eq (Nat.le_of_ble_eq_true rfl) ?_
  (repeat' first|simp only [il33c,go_sem,hroom,hbig,hrow,k0,hrl,q3p]|with_reducible refine wX fun _=>?_|((with_reducible refine wY ?_ ?_); rfl)|fail)
end Go.Proofs.YtbibdnlbpjnieaaGreat
