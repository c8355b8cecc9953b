/- Part 28 of the proof of TreeTells. -/
import Derived.Test.YtbibdnlbpjnieaaGreatT27
set_option linter.all false
set_option maxRecDepth 100000
set_option maxHeartbeats 4000000
namespace Go.Proofs.YtbibdnlbpjnieaaGreat
open Go Go.Abs
theorem q2I {D:List Int} {m:Nat} (hm:m < D.length):(D.map I)[m]? = some (I (dA D ((m:Nat):Int))):=by simp [dA,hm]
section
variable (f:Fl) (w:Nw) (hok:okT w.t=true) (hd:w.down.length=w.t.links.length) (hpl:(w.prios.length:Int)=w.t.nodes) (c:Bool) (D:List Int) (hD:rdI w D)
include hok hd hpl hD
theorem qi6 (n:Nat) (hst:stA w.t n=false):ans Tryz.prog pol 58 [nwT f w,.sl c 1 (D.map I),I (n:Nat)]=some (I (rpN w D n)):=by
 obtain ⟨z1,z2,z3⟩:=q02 hok
 obtain ⟨hDl,hDb⟩:=hD
 have k0:=qgI f.st f.lk w.t n hok hst
 have h24:=q1k hok (n:Int)
 obtain ⟨nn,hn⟩:∃ nn,1000 < nn:=⟨1001,by omega⟩
 refine q00 nn 1 il58_eq (Nat.le_of_ble_eq_true rfl) ?_
 (repeat' first|simp only [il58c,go_sem,k0]|with_reducible refine wX fun _=>?_|((with_reducible refine wY ?_ ?_); rfl)|fail)
 refine q06 (trunkL w.t (n:Nat)) (fun p=>I (ofN p)) (step:=fun _ p (b:Int)=>.go (rpS w D b p)) (fin:=id)
  (St:=fun i b e h=>(e 1=.t (.sl c 1 (D.map I))∧e 3=.t (.ip (nwC f w))∧e 7=.t (I b)∧e 8=.t (.sl false 1 (((trunkL w.t n).map ofN).map I))∧e 9=.t (I (i:Nat)))∧(b = -1∨∃ q∈trunkL w.t (n:Nat),b=((q:Nat):Int))∧h=[])
  (Ex:=fun b x e h=>e 7=.t (I b)∧x=.exit 0∧h=[]) (s:=-1) (by omega) ?_ ?_ (by omega) ?_ ?_
 ·intro i p b e h Y R hm hi hx hget hlt hw ⟨hs,hb,hh⟩ hk
  subst hh
  simp only [q01] at hk
  have htp:=qij.1 hm
  have hp:=htp.1
  have gp:(((trunkL w.t n).map ofN).map I)[i]? = some (I (p:Nat)):=by simp [hx,ofN]
  have hPL:(((trunkL w.t n).map ofN).map I).length=(trunkL w.t n).length:=by simp
  have gd:(w.down.map B)[p / 2]? = some (B (dnA w (p / 2))):=by simp [dnA,show p / 2 < w.down.length by omega]
  have v:=q1h hp (show w.t.links.length≤1000 by omega)
  unfold rpS at hk
  cases hdn:dnA w (p / 2) with
  | true =>
   rw [hdn] at gd hk
   rw [if_pos rfl] at hk
   (repeat' first|simp only [il58l0_go,il58l0b,go_sem,hs,gp,hPL,gd,v,hlt,hw]|with_reducible refine wX fun _=>?_|((with_reducible refine wY ?_ ?_); rfl)|fail)
   all_goals (refine hk _ _ ⟨?_,hb,rfl⟩; simp only [go_sem,hs,hw])
  | false =>
   rw [hdn] at gd hk
   rw [if_neg (by simp)] at hk
   have hnew:((p:Nat):Int) = -1∨∃ q∈trunkL w.t (n:Nat),((p:Nat):Int)=((q:Nat):Int):=.inr ⟨p,hm,rfl⟩
   rcases hb with hb|⟨q,hq,hb⟩
   ·have d0:decide (b < 0)=true:=decide_eq_true (by omega)
    rw [if_pos (by omega)] at hk
    (repeat' first|simp only [il58l0_go,il58l0b,go_sem,hs,gp,hPL,gd,v,hlt,hw,d0]|with_reducible refine wX fun _=>?_|((with_reducible refine wY ?_ ?_); rfl)|fail)
    all_goals (refine hk _ _ ⟨?_,hnew,rfl⟩; simp only [go_sem,hs,hw])
   ·subst hb
    have hqt:=(qij.1 hq).1
    have d0:decide (((q:Nat):Int) < 0)=false:=decide_eq_false (by omega)
    rw [if_neg (by omega),Int.toNat_natCast] at hk
    have kT1:=q1j f.st f.lk w.t p hp (by omega)
    have kT2:=q1j f.st f.lk w.t q hqt (by omega)
    have kP1:=q2y f.st f.lk w.t p hp (by omega)
    have kP2:=q2y f.st f.lk w.t q hqt (by omega)
    have kB1:=q3G p (by omega)
    have kB2:=q3G q (by omega)
    obtain ⟨b1,b2⟩:=q0v hok hp
    obtain ⟨c1,c2⟩:=q0v hok hqt
    have pe1:=q0P hok hp
    have pe2:=q0P hok hqt
    have kA:=q7i (dA D (toP w.t p)+perP w.t p) (prA w (toP w.t p).toNat,toP w.t p) (bk p:Nat) (dA D (toP w.t q)+perP w.t q) (prA w (toP w.t q).toNat,toP w.t q) (bk q:Nat)
    have hr:ahB (dA D (toP w.t p)+perP w.t p) (prA w (toP w.t p).toNat,toP w.t p) (bk p:Nat) (dA D (toP w.t q)+perP w.t q) (prA w (toP w.t q).toNat,toP w.t q) (bk q:Nat)=rpA w D p q:=rfl
    rw [hr] at kA
    clear hr
    have da1:=q1J hDb (toP w.t p)
    have da2:=q1J hDb (toP w.t q)
    generalize rpA w D p q=r at *
    generalize bk p=bp at *
    generalize bk q=bq at *
    generalize perP w.t p=P1 at *
    generalize perP w.t q=P2 at *
    generalize toP w.t p=A at *
    generalize toP w.t q=C at *
    obtain ⟨a,rfl⟩:∃ a:Nat,A=(a:Nat):=⟨A.toNat,by omega⟩
    obtain ⟨cc,rfl⟩:∃ a:Nat,C=(a:Nat):=⟨C.toNat,by omega⟩
    rw [Int.toNat_natCast,Int.toNat_natCast] at kA
    have kI1:=q1E f w a (by omega)
    have kI2:=q1E f w cc (by omega)
    have g1:=q2I (D:=D) (m:=a) (by omega)
    have g2:=q2I (D:=D) (m:=cc) (by omega)
    have v1:IntKind.i64.wrap (dA D ((a:Nat):Int)+P1)=dA D ((a:Nat):Int)+P1:=q09 (by omega) (by omega)
    have v2:IntKind.i64.wrap (dA D ((cc:Nat):Int)+P2)=dA D ((cc:Nat):Int)+P2:=q09 (by omega) (by omega)
    have hmA:a < D.length:=by omega
    have hmC:cc < D.length:=by omega
    simp only [encP] at kA
    generalize dA D ((a:Nat):Int)=DA at *
    generalize dA D ((cc:Nat):Int)=DC at *
    generalize prA w a=PA at *
    generalize prA w cc=PC at *
    cases r with
    | true =>
     rw [if_pos rfl] at hk
     (repeat' first|simp only [il58l0_go,il58l0b,go_sem,hs,gp,hPL,gd,v,hlt,hw,d0,kT1,kT2,kP1,kP2,kB1,kB2,kI1,kI2,g1,g2,hmA,hmC,v1,v2,kA]|with_reducible refine wX fun _=>?_|((with_reducible refine wY ?_ ?_); rfl)|fail)
     all_goals (refine hk _ _ ⟨?_,hnew,rfl⟩; simp only [go_sem,hs,hw])
    | false =>
     rw [if_neg (by simp)] at hk
     (repeat' first|simp only [il58l0_go,il58l0b,go_sem,hs,gp,hPL,gd,v,hlt,hw,d0,kT1,kT2,kP1,kP2,kB1,kB2,kI1,kI2,g1,g2,hmA,hmC,v1,v2,kA]|with_reducible refine wX fun _=>?_|((with_reducible refine wY ?_ ?_); rfl)|fail)
     all_goals (refine hk _ _ ⟨?_,.inr ⟨q,hq,rfl⟩,rfl⟩; simp only [go_sem,hs,hw])
 ·intro b e h Y R hlt ⟨hs,hb,hh⟩ hk
  subst hh
  (repeat' first|simp only [il58l0_go,il58l0b,go_sem,hs,hlt,List.length_map]|with_reducible refine wX fun _=>?_|((with_reducible refine wY ?_ ?_); rfl)|fail)
  all_goals (refine hk _ _ _ ⟨?_,rfl,rfl⟩; simp only [go_sem,hs,id])
 ·refine ⟨?_,.inl rfl,rfl⟩
  simp only [go_sem]
 ·intro x e h ⟨h1,h2,h3⟩
  subst h2 h3
  rw [q5V] at h1
  have h1:e 7=.t (I (rpN w D n)):=h1
  generalize rpN w D n=v at *
  (repeat' first|simp only [il58c,go_sem,h1]|with_reducible refine wX fun _=>?_|((with_reducible refine wY ?_ ?_); rfl)|fail)
def gV (w:Nw) (R:List (Int × Int)) (D:List Int) (p:Nat):Int :=
 if (outT w p).2=true then (outT w p).1 else
 if (rA R (frP w.t p)).2≠frP w.t p∧rpN w D (frP w.t p).toNat=(p:Nat) then 1 else
 if ahB (dA D (frP w.t p)) (prA w (frP w.t p).toNat,frP w.t p) (p:Nat) (dA D (toP w.t p)) (prA w (toP w.t p).toNat,toP w.t p) (bk p:Nat)=true then 2 else 3
end
theorem qi7 (f:Fl) (w:Nw) (hok:okT w.t=true) (hd:w.down.length=w.t.links.length) (hpl:(w.prios.length:Int)=w.t.nodes) (hD:rdI w (rdL w)):ans Tryz.prog pol 21 [nwT f w]=some (.sl false 1 (((List.range (2*w.t.links.length)).map (gV w (rrL w) (rdL w))).map I)):=by
 obtain ⟨z1,z2,z3⟩:=q02 hok
 have k1:=q7k f w hok hd w.t.nodes.toNat (by omega) hpl
 have k2:=qhU f w hok hd w.t.nodes.toNat (by omega) hpl
 have kRP:=fun n hst=>qi6 f w hok hd hpl false (rdL w) hD n hst
 have hRl:=q7n w
 obtain ⟨hDl,hDb⟩:=id hD
 generalize rdL w=D at *
 generalize rrL w=RR at *
 have v0:IntKind.i64.wrap (2*(w.t.links.length:Nat))=((2*w.t.links.length:Nat):Int):=by rw [q09 (by omega) (by omega)]; omega
 obtain ⟨nn,hn⟩:∃ nn,1000 < nn:=⟨1001,by omega⟩
 refine q00 nn 1 il21_eq (Nat.le_of_ble_eq_true rfl) ?_
 (repeat' first|simp only [il21c,go_sem,k1,k2]|with_reducible refine wX fun _=>?_|((with_reducible refine wY ?_ ?_); rfl)|fail)
 refine q0r (2*w.t.links.length) (step:=fun p (o:List Int)=>.go (o++[gV w RR D p])) (fin:=id)
  (St:=fun p o e h=>(e 1=.t (.ip (nwC f w))∧e 3=.t (.sl false 2 (RR.map encP))∧e 4=.t (.sl false 1 (D.map I))∧e 5=.ms 0 o.length 0 o.length 1 false∧e 6=.t (I (p:Nat)))∧o.length=p∧h=[rowG 1 I o])
  (Ex:=fun o x e h=>e 5=.ms 0 o.length 0 o.length 1 false∧x=.exit 0∧h=[rowG 1 I o]) (s:=[]) (by omega) ?_ ?_ (by omega) ?_ ?_
 ·intro p o e h Y R hp hlt hw ⟨hs,ho,hh⟩ hk
  subst hh
  simp only [q01] at hk
  have kO:=q7q f w hok hd p hp
  have hroom:(o.length+1)*8≤roomB:=q08 (by omega) (by omega)
  have is1:rowIs 1 o.length (some (rowG 1 I o)):=q0g
  unfold gV at hk
  cases hb:(outT w p).2 with
  | true =>
   rw [hb] at kO hk
   rw [if_pos rfl] at hk
   generalize (outT w p).1=R0 at *
   (repeat' first|simp only [il21l0_go,il21l0b,go_sem,hs,hlt,hw,v0,kO,hroom,is1,q0d,q0e,q0z,q0n]|with_reducible refine wX fun _=>?_|((with_reducible refine wY ?_ ?_); rfl)|fail)
   all_goals (refine hk _ _ ⟨?_,by simp [ho],?_⟩ <;> simp only [go_sem,hs,hw,List.length_append])
  | false =>
   rw [hb] at kO hk
   rw [if_neg (by simp)] at hk
   have hst:stA w.t (frP w.t p).toNat=false:=by
    unfold outT at hb
    split at hb
    ·cases hb
    ·rename_i hc
     cases hq:stA w.t (frP w.t p).toNat with
     | false=>rfl
     | true=>exact absurd (.inr hq) hc
   have kF:=q1i f.st f.lk w.t p hp (by omega)
   have kT:=q1j f.st f.lk w.t p hp (by omega)
   have kB:=q3G p (by omega)
   have kRP:=kRP _ hst
   have kA:=q7i (dA D (frP w.t p)) (prA w (frP w.t p).toNat,frP w.t p) (p:Nat) (dA D (toP w.t p)) (prA w (toP w.t p).toNat,toP w.t p) (bk p:Nat)
   obtain ⟨a1,a2⟩:=q0D hok hp
   obtain ⟨b1,b2⟩:=q0v hok hp
   clear hst hb
   generalize (outT w p).1=R1 at *
   generalize bk p=bp at *
   generalize frP w.t p=A at *
   generalize toP w.t p=C at *
   obtain ⟨a,rfl⟩:∃ a:Nat,A=(a:Nat):=⟨A.toNat,by omega⟩
   obtain ⟨cc,rfl⟩:∃ a:Nat,C=(a:Nat):=⟨C.toNat,by omega⟩
   rw [Int.toNat_natCast] at kRP
   rw [Int.toNat_natCast,Int.toNat_natCast] at kA hk
   have kI1:=q1E f w a (by omega)
   have kI2:=q1E f w cc (by omega)
   have g1:=q2I (D:=D) (m:=a) (by omega)
   have g2:=q2I (D:=D) (m:=cc) (by omega)
   have hmA:a < D.length:=by omega
   have hmC:cc < D.length:=by omega
   have hmR:a < RR.length:=by omega
   obtain ⟨y,hy⟩:∃ y,RR[a]? = some y:=⟨RR[a]'(by omega),by simp [hmR]⟩
   have hra:rA RR ((a:Nat):Int)=y:=by simp [rA,hy]
   rw [hra] at hk
   have gR:(RR.map encP)[a]? = some (.agg [I y.1,I y.2]):=by simp [hy,encP]
   have hcy:(T.agg [I y.1,I y.2]).cells=[I y.1,I y.2]:=rfl
   simp only [encP] at kA
   generalize ahB (dA D ((a:Nat):Int)) (prA w a,((a:Nat):Int)) (p:Nat) (dA D ((cc:Nat):Int)) (prA w cc,((cc:Nat):Int)) (bp:Nat)=r at *
   generalize dA D ((a:Nat):Int)=DA at *
   generalize dA D ((cc:Nat):Int)=DC at *
   generalize prA w a=PA at *
   generalize prA w cc=PC at *
   generalize rpN w D a=V at *
   by_cases hq:y.2=((a:Nat):Int)
   ·have d1:decide (y.2=((a:Nat):Int))=true:=decide_eq_true hq
    rw [if_neg (fun k=>k.1 hq)] at hk
    cases r with
    | true =>
     rw [if_pos rfl] at hk
     (repeat' first|simp only [il21l0_go,il21l0b,go_sem,hs,hlt,hw,v0,kO,kF,kT,kB,kI1,kI2,kA,g1,g2,hmA,hmC,hmR,gR,hcy,d1,hroom,is1,q0d,q0e,q0z,q0n]|with_reducible refine wX fun _=>?_|((with_reducible refine wY ?_ ?_); rfl)|fail)
     all_goals (refine hk _ _ ⟨?_,by simp [ho],?_⟩ <;> simp only [go_sem,hs,hw,List.length_append])
    | false =>
     rw [if_neg (by simp)] at hk
     (repeat' first|simp only [il21l0_go,il21l0b,go_sem,hs,hlt,hw,v0,kO,kF,kT,kB,kI1,kI2,kA,g1,g2,hmA,hmC,hmR,gR,hcy,d1,hroom,is1,q0d,q0e,q0z,q0n]|with_reducible refine wX fun _=>?_|((with_reducible refine wY ?_ ?_); rfl)|fail)
     all_goals (refine hk _ _ ⟨?_,by simp [ho],?_⟩ <;> simp only [go_sem,hs,hw,List.length_append])
   ·have d1:decide (y.2=((a:Nat):Int))=false:=decide_eq_false hq
    by_cases hv:V=((p:Nat):Int)
    ·have d2:=decide_eq_true hv
     rw [if_pos ⟨hq,hv⟩] at hk
     cases r with
     | true =>
      (repeat' first|simp only [il21l0_go,il21l0b,go_sem,hs,hlt,hw,v0,kO,kF,kT,kB,kI1,kI2,kA,kRP,g1,g2,hmA,hmC,hmR,gR,hcy,d1,d2,hroom,is1,q0d,q0e,q0z,q0n]|with_reducible refine wX fun _=>?_|((with_reducible refine wY ?_ ?_); rfl)|fail)
      all_goals (refine hk _ _ ⟨?_,by simp [ho],?_⟩ <;> simp only [go_sem,hs,hw,List.length_append])
     | false =>
      (repeat' first|simp only [il21l0_go,il21l0b,go_sem,hs,hlt,hw,v0,kO,kF,kT,kB,kI1,kI2,kA,kRP,g1,g2,hmA,hmC,hmR,gR,hcy,d1,d2,hroom,is1,q0d,q0e,q0z,q0n]|with_reducible refine wX fun _=>?_|((with_reducible refine wY ?_ ?_); rfl)|fail)
      all_goals (refine hk _ _ ⟨?_,by simp [ho],?_⟩ <;> simp only [go_sem,hs,hw,List.length_append])
    ·have d2:=decide_eq_false hv
     rw [if_neg (fun k=>hv k.2)] at hk
     cases r with
     | true =>
      rw [if_pos rfl] at hk
      (repeat' first|simp only [il21l0_go,il21l0b,go_sem,hs,hlt,hw,v0,kO,kF,kT,kB,kI1,kI2,kA,kRP,g1,g2,hmA,hmC,hmR,gR,hcy,d1,d2,hroom,is1,q0d,q0e,q0z,q0n]|with_reducible refine wX fun _=>?_|((with_reducible refine wY ?_ ?_); rfl)|fail)
      all_goals (refine hk _ _ ⟨?_,by simp [ho],?_⟩ <;> simp only [go_sem,hs,hw,List.length_append])
     | false =>
      rw [if_neg (by simp)] at hk
      (repeat' first|simp only [il21l0_go,il21l0b,go_sem,hs,hlt,hw,v0,kO,kF,kT,kB,kI1,kI2,kA,kRP,g1,g2,hmA,hmC,hmR,gR,hcy,d1,d2,hroom,is1,q0d,q0e,q0z,q0n]|with_reducible refine wX fun _=>?_|((with_reducible refine wY ?_ ?_); rfl)|fail)
      all_goals (refine hk _ _ ⟨?_,by simp [ho],?_⟩ <;> simp only [go_sem,hs,hw,List.length_append])
 ·intro o e h Y R hlt ⟨hs,ho,hh⟩ hk
  subst hh
  (repeat' first|simp only [il21l0_go,il21l0b,go_sem,hs,hlt,v0]|with_reducible refine wX fun _=>?_|((with_reducible refine wY ?_ ?_); rfl)|fail)
  all_goals (refine hk _ _ _ ⟨?_,rfl,rfl⟩; simp only [go_sem,hs,id])
 ·refine ⟨?_,rfl,rfl⟩
  simp only [go_sem]
 ·intro x e h ⟨h1,h2,h3⟩
  have hf:∀ (k i:Nat) (o:List Int),foldC (ρ:=List Int) (fun p (_:Unit) o=>Ctl.go (o++[gV w RR D p])) id i (List.replicate k ()) o=o++(List.range' i k).map (gV w RR D):=by
   intro k
   induction k with
   | zero=>intro i o; simp [foldC]
   | succ k ih=>intro i o; rw [List.replicate_succ,q07 (s':=o++[gV w RR D i]) rfl,ih,List.range'_succ]; simp
  rw [hf,List.nil_append,← List.range_eq_range'] at h1 h3
  generalize (List.range (2*w.t.links.length)).map (gV w RR D)=L at *
  subst h2 h3
  have is1:rowIs 1 L.length (some (rowG 1 I L)):=q0g
  (repeat' first|simp only [il21c,go_sem,h1,is1,q0d,q0e]|with_reducible refine wX fun _=>?_|((with_reducible refine wY ?_ ?_); rfl)|fail)
end Go.Proofs.YtbibdnlbpjnieaaGreat
namespace Go.Proofs.YtbibdnlbpjnieaaGreat
open Go Go.Abs
abbrev fl1:Fl:=⟨false,false,false,false,true⟩
theorem RoundV (f:Fl) (w:Nw) (h:VN w):ans Tryz.prog pol 22 [nwT f w]=some (.tup [nwT fl1 (rndW w),I 0]):=qgu f w h.z h.ok h.b6
def t3:Tpo:=⟨5,[false,false,false,true,true],[⟨0,1,1,0⟩,⟨1,2,1,0⟩,⟨0,2,5,0⟩,⟨3,0,1,0⟩,⟨4,2,1,0⟩]⟩
theorem qi8:ans Tryz.prog pol 27 []=some (tpT true true t3):=q0w (n:=10) 3 (by kernel_rfl)
def pr0:List Int:=[0,0,0,0,0]
def n0:Nw:=⟨t3,pr0,List.replicate t3.links.length false,newL (newW t3 pr0)⟩
def n3:Nw:=⟨(rndW (rndW n0)).t,(rndW (rndW n0)).prios,(rndW (rndW n0)).down.set 1 true,cutL (rndW (rndW n0)) 1⟩
theorem t3_ok:okT t3=true:=by decide +kernel
theorem n0_ok:VN n0:=VN.new t3_ok (by decide +kernel)
theorem n3_ok:VN n3:=n0_ok.rnd.rnd.cut 1
theorem g0_eq:asL n0 (goalW n0)=[2,1,2,1,2,3,0,2,0,2]:=by decide +kernel
theorem r0_eq:asL n0 (roleW n0)=[2,2,2,2,2,2,0,2,0,2]:=by decide +kernel
theorem r2_eq:asL (rndW (rndW n0)) (roleW (rndW (rndW n0)))=[2,1,2,1,2,3,0,2,0,2]:=by decide +kernel
theorem g3_eq:asL n3 (goalW n3)=[2,1,0,0,2,1,0,2,0,2]:=by decide +kernel
theorem qi9:ans Tryz.prog pol 6 []=some (B true):=by
 have k0:=qi8
 have k1:ans Tryz.prog pol 8 [tpT true true t3,.sl true 1 [I 0,I 0,I 0,I 0,I 0]]=some (.tup [nwT fl1 n0,I 0]):=qgH true true true t3 pr0 t3_ok (by decide +kernel)
 have k2:=q3Y fl1 n0 n0_ok.z n0_ok.ok
 have k3:=q3W fl1 n0 n0_ok.z n0_ok.ok
 have k4:=RoundV fl1 n0 n0_ok
 have k5:=RoundV fl1 (rndW n0) n0_ok.rnd
 have k6:=q3W fl1 (rndW (rndW n0)) n0_ok.rnd.rnd.z n0_ok.rnd.rnd.ok
 have k7:ans Tryz.prog pol 23 [nwT fl1 (rndW (rndW n0)),I 1]=some (.tup [nwT fl1 n3,I 0]):=qgB fl1 (rndW (rndW n0)) n0_ok.rnd.rnd.z n0_ok.rnd.rnd.ok 1 (by decide +kernel) n0_ok.rnd.rnd.b6
 have k8:=q3Y fl1 n3 n3_ok.z n3_ok.ok
 have k9:=qgA fl1 n0 5 n0_ok.z n0_ok.ok (.inr (by decide +kernel))
 rw [g0_eq] at k2
 rw [r0_eq] at k3
 rw [r2_eq] at k6
 rw [g3_eq] at k8
 have e1:=q1b true true [2,1,2,1,2,3,0,2,0,2] [2,1,2,1,2,3,0,2,0,2] (by decide)
 have e2:=q1b true true [2,2,2,2,2,2,0,2,0,2] [2,2,2,2,2,2,0,2,0,2] (by decide)
 have e3:=q1b true true [2,1,0,0,2,1,0,2,0,2] [2,1,0,0,2,1,0,2,0,2] (by decide)
 have d1:decide ([(2:Int),1,2,1,2,3,0,2,0,2]=[2,1,2,1,2,3,0,2,0,2])=true:=by decide
 have d2:decide ([(2:Int),2,2,2,2,2,0,2,0,2]=[2,2,2,2,2,2,0,2,0,2])=true:=by decide
 have d3:decide ([(2:Int),1,0,0,2,1,0,2,0,2]=[2,1,0,0,2,1,0,2,0,2])=true:=by decide
 rw [d1] at e1
 rw [d2] at e2
 rw [d3] at e3
 simp only [List.map_cons,List.map_nil] at k2 k3 k6 k8 e1 e2 e3
 generalize n3=w3 at *
 generalize rndW (rndW n0)=w2 at *
 generalize rndW n0=w1 at *
 generalize n0=w0 at *
 generalize t3=T3 at *
 refine q00 100 1 il6_eq (Nat.le_of_ble_eq_true rfl) ?_
 (repeat' first|simp only [il6c,go_sem,k0,k1,k2,k3,k4,k5,k6,k7,k8,k9,e1,e2,e3]|with_reducible refine wX fun _=>?_|((with_reducible refine wY ?_ ?_); rfl)|fail)
end Go.Proofs.YtbibdnlbpjnieaaGreat
namespace Go.Proofs.YtbibdnlbpjnieaaGreat
open Go Go.Abs
def fewT (t:Tpo):Tpo:=⟨t.nodes,t.station.take 20,t.links.take 30⟩
theorem qia (c1 c2:Bool) (t:Tpo):∃ d1 d2,ans Tryz.prog pol 7 [tpT c1 c2 t]=some (tpT d1 d2 (fewT t)):=by
 obtain ⟨nodes,st,lk⟩:=t
 simp only [fewT,tpT,tpC]
 have m20:(if 20 < ((st.length:Nat):Int) then (20:Int) else ((st.length:Nat):Int))=((min 20 st.length:Nat):Int):=by split <;> omega
 have m30:(if 30 < ((lk.length:Nat):Int) then (30:Int) else ((lk.length:Nat):Int))=((min 30 lk.length:Nat):Int):=by split <;> omega
 have t20:List.take (min 20 st.length) (st.map B)=(st.take 20).map B:=by rw [List.map_take,List.take_eq_take_min (i:=20) (l:=st.map B),List.length_map]
 have t30:List.take (min 30 lk.length) (lk.map encK)=(lk.take 30).map encK:=by rw [List.map_take,List.take_eq_take_min (i:=30) (l:=lk.map encK),List.length_map]
 have q20:min 20 st.length≤st.length:=Nat.min_le_right _ _
 have q30:min 30 lk.length≤lk.length:=Nat.min_le_right _ _
 generalize hA:(st.take 20).map B=A at *
 generalize hL:(lk.take 30).map encK=L at *
 generalize hb1:decide (min 20 st.length=st.length)=b1 at *
 generalize hb2:decide (min 30 lk.length=lk.length)=b2 at *
 refine ⟨c1 && b1,c2 && b2,?_⟩
 refine q00 1 1 il7_eq (Nat.le_of_ble_eq_true rfl) ?_
 (repeat' first|simp only [il7c,go_sem,m20,m30,t20,t30,q20,q30,hb1,hb2]|with_reducible refine wX fun _=>?_|((with_reducible refine wY ?_ ?_); rfl)|fail)
end Go.Proofs.YtbibdnlbpjnieaaGreat
namespace Go.Proofs.YtbibdnlbpjnieaaGreat
open Go Go.Abs
theorem min20 {n:Nat}:(if 20 < ((n:Nat):Int) then (20:Int) else ((n:Nat):Int))=((min 20 n:Nat):Int):=by split <;> omega
theorem min30 {n:Nat}:(if 30 < ((n:Nat):Int) then (30:Int) else ((n:Nat):Int))=((min 30 n:Nat):Int):=by split <;> omega
theorem q1K {α:Type} {enc:α→T} {l:List α} {k:Nat}:List.take (min k l.length) (l.map enc)=(l.take k).map enc:=by rw [List.map_take,List.take_eq_take_min (i:=k) (l:=l.map enc),List.length_map]
def limX (x:Bx):Bx:=⟨false,x.c1 && decide (min 30 x.b.ports.length=x.b.ports.length),x.c2 && decide (min 30 x.b.costs.length=x.b.costs.length),x.c3 && decide (min 30 x.b.heard.length=x.b.heard.length),⟨x.b.p,x.b.n,x.b.ports.take 30,x.b.costs.take 30,x.b.heard.take 30⟩⟩
structure Lim (w:Nw):Prop where
 st:w.t.station.length≤20
 lk:w.t.links.length≤30
 pr:w.prios.length≤20
 dn:w.down.length≤30
 bs:w.bs.length≤20
 z:∀ x∈w.bs,x.z=false
 b:∀ x∈w.bs,x.b.ports.length≤30∧x.b.costs.length≤30∧x.b.heard.length≤30
theorem qib (f:Fl) (w:Nw) (hz:∀ x∈w.bs,x.z=false):∃ f' w',Lim w'∧ans Tryz.prog pol 15 [nwT f w]=some (nwT f' w'):=by
 obtain ⟨d1,d2,kf⟩:=qia f.st f.lk w.t
 have hX1:(fewT w.t).station.length≤20:=by simp [fewT]; omega
 have hX2:(fewT w.t).links.length≤30:=by simp [fewT]; omega
 generalize fewT w.t=X at *
 have m20:=@min20 w.prios.length
 have m30:=@min30 w.down.length
 have mB:=@min20 w.bs.length
 have t20:=@q1K _ I w.prios 20
 have t30:=@q1K _ B w.down 30
 have tB:=@q1K _ encX w.bs 20
 have q20:min 20 w.prios.length≤w.prios.length:=Nat.min_le_right _ _
 have q30:min 30 w.down.length≤w.down.length:=Nat.min_le_right _ _
 have qB:min 20 w.bs.length≤w.bs.length:=Nat.min_le_right _ _
 have hBm:∀ x∈w.bs.take 20,x.z=false:=fun x hx=>hz x (List.mem_of_mem_take hx)
 have hB20:(w.bs.take 20).length≤20:=by simp; omega
 have hBl:((w.bs.take 20).map encX).length=(w.bs.take 20).length:=List.length_map ..
 generalize hb1:decide (min 20 w.prios.length=w.prios.length)=b1 at *
 generalize hb2:decide (min 30 w.down.length=w.down.length)=b2 at *
 generalize hb3:decide (min 20 w.bs.length=w.bs.length)=b3 at *
 have hP:(w.prios.take 20).length≤20:=by simp; omega
 have hD:(w.down.take 30).length≤30:=by simp; omega
 generalize w.prios.take 20=P at *
 generalize w.down.take 30=D at *
 generalize w.bs.take 20=L at *
 refine ⟨⟨d1,d2,f.pr && b1,f.dn && b2,false⟩,⟨X,P,D,L.map limX⟩,⟨hX1,hX2,hP,hD,by simpa using hB20,fun x hx=>?_,fun x hx=>?_⟩,?_⟩
 ·obtain ⟨y,_,rfl⟩:=List.mem_map.1 hx; rfl
 ·obtain ⟨y,_,rfl⟩:=List.mem_map.1 hx
  simp only [limX,List.length_take]
  omega
 obtain ⟨nn,hn⟩:∃ nn,1000 < nn:=⟨1001,by omega⟩
 refine q00 nn 1 il15_eq (Nat.le_of_ble_eq_true rfl) ?_
 (repeat' first|simp only [il15c,go_sem,kf,m20,m30,mB,t20,t30,tB,q20,q30,qB,hb1,hb2,hb3]|with_reducible refine wX fun _=>?_|((with_reducible refine wY ?_ ?_); rfl)|fail)
 refine q06 L encX (step:=fun _ x (o:List Bx)=>.go (o++[limX x])) (fin:=id)
  (St:=fun i o e h=>(e 1=.ref 0 1 0 0∧e 2=.ref 1 1 0 0∧e 3=.ms 2 o.length 0 o.length 5 false∧e 32=.t (.sl (f.bs && b3) 5 (L.map encX))∧e 33=.t (I (L.length:Nat))∧e 34=.t (I (i:Nat)))∧o.length=i∧h=[.row 6 [.t (.agg [I X.nodes,.sl d1 1 (X.station.map B),.sl d2 4 (X.links.map encK),.sl (f.pr && b1) 1 (P.map I),.sl (f.dn && b2) 1 (D.map B),.sl f.bs 5 (w.bs.map encX)])] 1,.row 6 [.t zN6] 0,rowG 5 encX o])
  (Ex:=fun o x e h=>(e 1=.ref 0 1 0 0∧e 2=.ref 1 1 0 0∧e 3=.ms 2 o.length 0 o.length 5 false)∧x=.exit 0∧h=[.row 6 [.t (.agg [I X.nodes,.sl d1 1 (X.station.map B),.sl d2 4 (X.links.map encK),.sl (f.pr && b1) 1 (P.map I),.sl (f.dn && b2) 1 (D.map B),.sl f.bs 5 (w.bs.map encX)])] 1,.row 6 [.t zN6] 0,rowG 5 encX o]) (s:=[]) (by omega) ?_ ?_ (by omega) ?_ ?_
 ·intro i x o e h Y R hm hi hx hget hlt hw ⟨hs,ho,hh⟩ hk
  subst hh
  simp only [q01] at hk
  have hxz:=hBm x hm
  obtain ⟨z,c1,c2,c3,b⟩:=x
  dsimp only at hxz
  subst hxz
  have ex:encX ⟨false,c1,c2,c3,b⟩=brT c1 c2 c3 b:=rfl
  rw [ex] at hget
  have n1:=@min30 b.ports.length
  have n2:=@min30 b.costs.length
  have n3:=@min30 b.heard.length
  have u1:=@q1K _ I b.ports 30
  have u2:=@q1K _ I b.costs 30
  have u3:=@q1K _ encH b.heard 30
  have p1:min 30 b.ports.length≤b.ports.length:=Nat.min_le_right _ _
  have p2:min 30 b.costs.length≤b.costs.length:=Nat.min_le_right _ _
  have p3:min 30 b.heard.length≤b.heard.length:=Nat.min_le_right _ _
  have hroom:(o.length+1)*88≤roomB:=q08 (by omega) (by omega)
  have is1:rowIs 5 o.length (some (rowG 5 encX o)):=q0g
  have pu:=q0z (k:=5) (enc:=encX) (l:=o) (x:=limX ⟨false,c1,c2,c3,b⟩)
  have el:encX (limX ⟨false,c1,c2,c3,b⟩)=.agg [I b.p,I b.n,.sl (c1 && decide (min 30 b.ports.length=b.ports.length)) 1 ((b.ports.take 30).map I),.sl (c2 && decide (min 30 b.costs.length=b.costs.length)) 1 ((b.costs.take 30).map I),.sl (c3 && decide (min 30 b.heard.length=b.heard.length)) 8 ((b.heard.take 30).map encH)]:=rfl
  rw [el] at pu
  generalize limX ⟨false,c1,c2,c3,b⟩=LX at *
  generalize hr1:decide (min 30 b.ports.length=b.ports.length)=r1 at *
  generalize hr2:decide (min 30 b.costs.length=b.costs.length)=r2 at *
  generalize hr3:decide (min 30 b.heard.length=b.heard.length)=r3 at *
  generalize hq1:(b.ports.take 30).map I=Q1 at *
  generalize hq2:(b.costs.take 30).map I=Q2 at *
  generalize hq3:(b.heard.take 30).map encH=Q3 at *
  (repeat' first|simp only [il15l0_go,il15l0b,go_sem,hs,hget,hlt,hw,n1,n2,n3,u1,u2,u3,p1,p2,p3,hr1,hr2,hr3,hroom,is1,q0d,q0e,pu,qhX]|with_reducible refine wX fun _=>?_|((with_reducible refine wY ?_ ?_); rfl)|fail)
  all_goals (refine hk _ _ ⟨?_,by simp [ho],?_⟩ <;> first|(simp only [go_sem,hs,hw,List.length_append]; done)|rfl)
 ·intro o e h Y R hlt ⟨hs,ho,hh⟩ hk
  subst hh
  (repeat' first|simp only [il15l0_go,il15l0b,go_sem,hs,hlt]|with_reducible refine wX fun _=>?_|((with_reducible refine wY ?_ ?_); rfl)|fail)
  all_goals (refine hk _ _ _ ⟨?_,rfl,rfl⟩; simp only [go_sem,hs,id])
 ·refine ⟨?_,rfl,rfl⟩
  simp only [go_sem,hBl]
 ·intro x e h ⟨h1,h2,h3⟩
  have hf:∀ (l:List Bx) (i:Nat) (o:List Bx),foldC (ρ:=List Bx) (fun _ x o=>Ctl.go (o++[limX x])) id i l o=o++l.map limX:=by
   intro l
   induction l with
   | nil=>intro i o; simp [foldC]
   | cons y l ih=>intro i o; rw [q07 (s':=o++[limX y]) rfl,ih]; simp
  rw [hf,List.nil_append] at h1 h3
  generalize L.map limX=L2 at *
  subst h2 h3
  have is1:rowIs 5 L2.length (some (rowG 5 encX L2)):=q0g
  (repeat' first|simp only [il15c,go_sem,h1,is1,q0d,q0e]|with_reducible refine wX fun _=>?_|((with_reducible refine wY ?_ ?_); rfl)|fail)
end Go.Proofs.YtbibdnlbpjnieaaGreat
namespace Go.Proofs.YtbibdnlbpjnieaaGreat
open Go Go.Abs
end Go.Proofs.YtbibdnlbpjnieaaGreat
namespace Go.Proofs.YtbibdnlbpjnieaaGreat
open Go Go.Abs
section
variable (f:Fl) (w:Nw) (hO:NwOk w) (hz:∀ x∈w.bs,x.z=false)
include hO hz
end
end Go.Proofs.YtbibdnlbpjnieaaGreat
namespace Go.Proofs.YtbibdnlbpjnieaaGreat
open Go Go.Abs
section
variable (f:Fl) (w:Nw) (hO:NwOk w) (hz:∀ x∈w.bs,x.z=false)
include hO hz
end
end Go.Proofs.YtbibdnlbpjnieaaGreat
namespace Go.Proofs.YtbibdnlbpjnieaaGreat
open Go Go.Abs
end Go.Proofs.YtbibdnlbpjnieaaGreat
namespace Go.Proofs.YtbibdnlbpjnieaaGreat
open Go Go.Abs
theorem qic {w:Nw} (hok:okN w=true) (hz:∀ x∈w.bs,x.z=false):VN w:=by
 have hzk:zOk w:=fun n hn h=>by
  have hm:bxA w n∈w.bs:=by rw [bxA,List.getElem?_eq_getElem hn]; exact List.getElem_mem hn
  rw [hz _ hm] at h; cases h
 have hO:=q0Z hok hzk
 have hs:∀ n,n < w.bs.length→soundN w n=true:=by
  simp only [okN,Bool.and_eq_true] at hok
  exact fun n hn=>List.all_eq_true.1 hok.2.2.2.2 n (List.mem_range.2 hn)
 refine ⟨hO.t,hO.rank,hO.bl,hO.dl,hO.vb,fun q hq hd=>?_,fun n x hx hst=>?_⟩
 ·obtain ⟨n,x,h1,h2,h3,h4,h5,h6,h7,h8⟩:=q1l hO.t hO.bl hO.vb hq
  have hbx:bxA w n=x:=by simp [bxA,h3]
  have hsn:=hs n h2
  have hst:stA w.t n=false:=by have:=hq.2.1; rwa [h1,Int.toNat_natCast] at this
  rw [soundN,hst,if_neg (by simp),hbx] at hsn
  simp only [Bool.and_eq_true] at hsn
  have hqu:=hsn.2.2.2.2
  obtain ⟨i1,i2,_⟩:=q0X (q0Q hq)
  rw [h1] at i1 i2
  have:=List.all_eq_true.1 hqu (ixP w.t q) (List.mem_range.2 i1)
  rw [i2,Option.getD_some,hd,Bool.true_and] at this
  rw [hAt,h1,Int.toNat_natCast,h4]
  simpa using this
 ·have hn:n < w.bs.length:=(List.getElem?_eq_some_iff.1 hx).1
  have hbx:bxA w n=x:=by simp [bxA,hx]
  have hsn:=hs n hn
  rw [soundN,hst,if_pos rfl,hbx] at hsn
  refine ⟨hsn,fun h=>?_⟩
  rw [hz x (List.mem_of_getElem? hx)] at h; cases h
section
variable {w:Nw} (h:VN w) (hz:∀ x∈w.bs,x.z=false)
include h hz
end
end Go.Proofs.YtbibdnlbpjnieaaGreat
namespace Go.Proofs.YtbibdnlbpjnieaaGreat
open Go Go.Abs
theorem gV_eq {w:Nw} (h:VN w) {p:Nat} (hp:p < 2*w.t.links.length):gV w (rrL w) (rdL w) p=refR w (goalW w) p:=by
 unfold gV refR
 cases hb:(outT w p).2 with
 | true=>rw [if_pos rfl,if_pos rfl]
 | false =>
  have hft:¬ (false=true):=by simp
  rw [if_neg hft,if_neg hft]
  have hup:upP w p:=by
   unfold outT at hb
   split at hb
   ·cases hb
   ·rename_i hc
    refine ⟨⟨hp,?_,hb⟩,?_⟩
    ·cases hq:stA w.t (frP w.t p).toNat with
     | false=>rfl
     | true=>exact absurd (.inr hq) hc
    ·cases hq:dnA w (p / 2) with
     | false=>rfl
     | true=>exact absurd (.inl hq) hc
  obtain ⟨z1,z2,z3⟩:=q02 h.t
  obtain ⟨f1,f2⟩:=fr_N h hup.1
  obtain ⟨t1,t2⟩:=to_N h hup.1
  rw [qhE h hup f2]
  have e:goalM (netX w) p=if rootF w (frP w.t p).toNat≠(frP w.t p).toNat∧p=(netX w).bst (frP w.t p).toNat then 1 else if lx3 (distF w (frP w.t p).toNat) (kap w (frP w.t p).toNat) (p:Nat) (distF w (toP w.t p).toNat) (kap w (toP w.t p).toNat) (bk p:Nat) then 2 else 3:=rfl
  rw [e]
  have hra:=rrA h _ f1
  have hda:=rdA h _ f1
  have hdb:=rdA h _ t1
  have hah:=q7g (w:=w) (d:=distF w (frP w.t p).toNat) (e:=distF w (toP w.t p).toNat) (p:=(p:Nat)) (q:=(bk p:Nat)) (x:=(frP w.t p).toNat) (y:=(toP w.t p).toNat) (by omega) (by omega)
  rw [← f2] at hra hda hah
  rw [← t2] at hdb hah
  rw [hra,hda,hdb]
  have c1:(((rootF w (frP w.t p).toNat:Nat):Int)≠frP w.t p∧rpN w (rdL w) (frP w.t p).toNat=((p:Nat):Int))↔(rootF w (frP w.t p).toNat≠(frP w.t p).toNat∧p=(netX w).bst (frP w.t p).toNat):=by
   by_cases hr:rootF w (frP w.t p).toNat=(frP w.t p).toNat
   ·exact ⟨fun k=>absurd (by omega) k.1,fun k=>absurd hr k.1⟩
   ·rw [qhQ h f1 hr]
    exact ⟨fun k=>⟨hr,by omega⟩,fun k=>⟨by omega,by omega⟩⟩
  simp only [c1,hah]
theorem qid (f:Fl) (w0:Nw) (hz0:∀ x∈w0.bs,x.z=false):ans Tryz.prog pol 4 [nwT f w0]=some (B true):=by
 have k0:=qi9
 obtain ⟨f,w,hL,kl⟩:=qib f w0 hz0
 have hz:=hL.z
 have hzk:zOk w:=fun n hn h=>by
  have hm:bxA w n∈w.bs:=by rw [bxA,List.getElem?_eq_getElem hn]; exact List.getElem_mem hn
  rw [hz _ hm] at h; cases h
 have l1:=hL.pr
 have l2:=hL.bs
 have kR:=qi0 f w hz (by omega) (by omega) (fun x hx=>by have:=hL.b x hx; omega)
 cases hok:okN w with
 | false =>
  rw [hok] at kR
  have k1:=qhb f w hzk (by omega) (by omega) hok
  have k2:=qhv f w hzk (by omega) (by omega) hok
  clear hL hz hzk l1 l2
  refine q00 1 1 il4_eq (Nat.le_of_ble_eq_true rfl) ?_
  (repeat' first|simp only [il4c,go_sem,k0,kl,kR,k1,k2]|with_reducible refine wX fun _=>?_|((with_reducible refine wY ?_ ?_); rfl)|fail)
 | true =>
  rw [hok] at kR
  have h:=qic hok hz
  have hO:=q0Z hok hzk
  obtain ⟨z1,z2,z3⟩:=q02 h.t
  have hpl:=q0H h.rank
  have k1:=q3W f w hzk hok
  have k2:=q3Y f w hzk hok
  have kr1:=qi5 f w hO hz
  have hD:rdI w (rdL w):=by
   rw [rdL]
   have h0:rdI w (rd0 w (rrL w)):=by
    refine ⟨by simp [rd0],fun x hx=>?_⟩
    rw [rd0,List.mem_map] at hx
    obtain ⟨m,_,rfl⟩:=hx
    split <;> omega
   generalize rd0 w (rrL w)=D0 at *
   generalize w.t.nodes.toNat=k
   induction k with
   | zero=>exact h0
   | succ k ih=>rw [List.range_succ,List.foldl_append,List.foldl_cons,List.foldl_nil]; exact q7m h.t ih
  have kr2:=qi7 f w h.t h.dl hpl hD
  have e1:=q7r (r:=roleW w) h.t h.bl
  have e2:=q7r (r:=goalW w) h.t h.bl
  have e3:(List.range (2*w.t.links.length)).map (gV w (rrL w) (rdL w))=(List.range (2*w.t.links.length)).map (refR w (goalW w)):=List.map_congr_left (fun p hp=>gV_eq h (List.mem_range.1 hp))
  rw [e3,← e2] at kr2
  rw [← e1] at kr1
  have hl1:(asL w (roleW w)).length≤1000000:=by rw [e1]; simp; omega
  have hl2:(asL w (goalW w)).length≤1000000:=by rw [e2]; simp; omega
  clear e1 e2 e3 hD hL hz hzk hO h l1 l2
  generalize asL w (roleW w)=L1 at *
  generalize asL w (goalW w)=L2 at *
  have q1:=q1b true false L1 L1 hl1
  have q2:=q1b true false L2 L2 hl2
  have d1:decide (L1=L1)=true:=decide_eq_true rfl
  have d2:decide (L2=L2)=true:=decide_eq_true rfl
  rw [d1] at q1
  rw [d2] at q2
  refine q00 1 1 il4_eq (Nat.le_of_ble_eq_true rfl) ?_
  (repeat' first|simp only [il4c,go_sem,k0,kl,kR,k1,k2,kr1,kr2,q1,q2]|with_reducible refine wX fun _=>?_|((with_reducible refine wY ?_ ?_); rfl)|fail)
end Go.Proofs.YtbibdnlbpjnieaaGreat
namespace Go.Proofs.YtbibdnlbpjnieaaGreat
open Go Go.Abs
theorem qie {x:T} (f:FitE Tryz.prog 3 x):∃ a,x=I a:=by
 obtain ⟨n0,rfl,w0⟩:=q5o (l:=.int .i64) (by kernel_rfl) (by kernel_rfl) f
 exact ⟨n0,rfl⟩
theorem ints {xs:List T} (h:∀ y∈xs,FitE Tryz.prog 3 y):∃ l,xs=List.map I l:=q2o (fun y hy=>qie (h y hy))
theorem qif {x:T} (f:FitE Tryz.prog 4 x):∃ a,x=B a:=by
 obtain ⟨b0,rfl⟩:=q5o (l:=.bool) (by kernel_rfl) (by kernel_rfl) f
 exact ⟨b0,rfl⟩
theorem bools {xs:List T} (h:∀ y∈xs,FitE Tryz.prog 4 y):∃ l,xs=List.map B l:=q2o (fun y hy=>qif (h y hy))
theorem qig {x:T} (f:FitE Tryz.prog 70 x):∃ a,x=encK a:=by
 obtain ⟨c,rfl,g⟩:=q2m (ls:=[.int .i64,.int .i64,.int .i64,.int .i64]) (by kernel_rfl) (by kernel_rfl) f
 obtain ⟨y0,q0,rfl,v0,g⟩:=q0j g
 obtain ⟨y1,q1,rfl,v1,g⟩:=q0j g
 obtain ⟨y2,q2,rfl,v2,g⟩:=q0j g
 obtain ⟨y3,q3,rfl,v3,g⟩:=q0j g
 obtain rfl:=q1T g
 obtain ⟨n0,rfl,w0⟩:=v0
 obtain ⟨n1,rfl,w1⟩:=v1
 obtain ⟨n2,rfl,w2⟩:=v2
 obtain ⟨n3,rfl,w3⟩:=v3
 exact ⟨⟨n0,n1,n2,n3⟩,rfl⟩
theorem links {xs:List T} (h:∀ y∈xs,FitE Tryz.prog 70 y):∃ l,xs=List.map encK l:=q2o (fun y hy=>qig (h y hy))
theorem qih {x:T} (f:FitE Tryz.prog 89 x):∃ a,x=encH a:=by
 obtain ⟨c,rfl,g⟩:=q2m (ls:=[.bool,.int .i64,.int .i64,.int .i64,.int .i64,.int .i64,.int .i64,.int .i64]) (by kernel_rfl) (by kernel_rfl) f
 obtain ⟨y0,q0,rfl,v0,g⟩:=q0j g
 obtain ⟨y1,q1,rfl,v1,g⟩:=q0j g
 obtain ⟨y2,q2,rfl,v2,g⟩:=q0j g
 obtain ⟨y3,q3,rfl,v3,g⟩:=q0j g
 obtain ⟨y4,q4,rfl,v4,g⟩:=q0j g
 obtain ⟨y5,q5,rfl,v5,g⟩:=q0j g
 obtain ⟨y6,q6,rfl,v6,g⟩:=q0j g
 obtain ⟨y7,q7,rfl,v7,g⟩:=q0j g
 obtain rfl:=q1T g
 obtain ⟨b0,rfl⟩:=v0
 obtain ⟨n1,rfl,w1⟩:=v1
 obtain ⟨n2,rfl,w2⟩:=v2
 obtain ⟨n3,rfl,w3⟩:=v3
 obtain ⟨n4,rfl,w4⟩:=v4
 obtain ⟨n5,rfl,w5⟩:=v5
 obtain ⟨n6,rfl,w6⟩:=v6
 obtain ⟨n7,rfl,w7⟩:=v7
 exact ⟨⟨b0,n1,n2,n3,n4,n5,n6,n7⟩,rfl⟩
theorem heards {xs:List T} (h:∀ y∈xs,FitE Tryz.prog 89 y):∃ l,xs=List.map encH l:=q2o (fun y hy=>qih (h y hy))
theorem qii {x:T} (f:FitE Tryz.prog 65 x):∃ a,x=encX a∧(fun x:Bx=>x.z=false) a:=by
 obtain ⟨c,rfl,g⟩:=q2m (ls:=[.int .i64,.int .i64,.sl 1 3,.sl 1 3,.sl 8 89]) (by kernel_rfl) (by kernel_rfl) f
 obtain ⟨y0,q0,rfl,v0,g⟩:=q0j g
 obtain ⟨y1,q1,rfl,v1,g⟩:=q0j g
 obtain ⟨y2,q2,rfl,v2,g⟩:=q0j g
 obtain ⟨y3,q3,rfl,v3,g⟩:=q0j g
 obtain ⟨y4,q4,rfl,v4,g⟩:=q0j g
 obtain rfl:=q1T g
 obtain ⟨n0,rfl,w0⟩:=v0
 obtain ⟨n1,rfl,w1⟩:=v1
 obtain ⟨l2,rfl,k2,e2⟩:=v2
 obtain ⟨l3,rfl,k3,e3⟩:=v3
 obtain ⟨l4,rfl,k4,e4⟩:=v4
 obtain ⟨a2,rfl⟩:=ints e2
 obtain ⟨a3,rfl⟩:=ints e3
 obtain ⟨a4,rfl⟩:=heards e4
 exact ⟨⟨false,false,false,false,⟨n0,n1,a2,a3,a4⟩⟩,rfl,rfl⟩
theorem bridges {xs:List T} (h:∀ y∈xs,FitE Tryz.prog 65 y):∃ l,xs=List.map encX l∧∀ a∈l,(fun x:Bx=>x.z=false) a:=q5U (fun y hy=>qii (h y hy))
end Go.Proofs.YtbibdnlbpjnieaaGreat
